/-
  Contracts and lemmas, joined in one text.
-/
import Derived.Test.YtcfcdbeemhjhgaaDoorHs3
import Derived.Test.YtcfcdbeemhjhgaaDoorCB
import Derived.Test.YtcfcdbeemhjhgaaDoorPrime
import Derived.Test.YtcfcdbeemhjhgaaDoorH6
set_option linter.unusedVariables false
set_option linter.unusedSimpArgs false
/-
  The document's own functions of layer 21.
-/
set_option maxRecDepth 100000
set_option maxHeartbeats 16000000
namespace Go.Proofs.YtcfcdbeemhjhgaaDoor
open Go.RowKit
theorem sq_lt65 {q:Nat} (h:q * q < 4294967296):q < 65536:=by
  rcases Nat.lt_or_ge q 65536 with h1 | h1
  · exact h1
  · have:=Nat.mul_le_mul h1 h1; omega
theorem pr_of_sq {p:Nat} (h2:2 ≤ p) (h:∀ d,2 ≤ d → d * d ≤ p → ¬ d ∣ p):MR.Pr p:=⟨h2,fun d hd => by
  by_cases h1:d = 1
  · exact .inl h1
  by_cases hp:d = p
  · exact .inr hp
  exfalso
  obtain ⟨e,he⟩:=hd
  have hd0:d ≠ 0:=fun e0 => by rw [e0,Nat.zero_mul] at he; omega
  have he0:e ≠ 0:=fun e0 => by rw [e0,Nat.mul_zero] at he; omega
  have he1:e ≠ 1:=fun e0 => by rw [e0,Nat.mul_one] at he; exact hp he.symm
  rcases Nat.le_total d e with hl | hl
  · exact h d (by omega) (by rw [he]; exact Nat.mul_le_mul_left d hl) ⟨e,he⟩
  · exact h e (by omega) (by rw [he]; exact Nat.mul_le_mul_right e hl) ⟨d,by rw [he,Nat.mul_comm]⟩⟩
theorem pr_no {p d:Nat} (hp:MR.Pr p) (h2:2 ≤ d) (hs:d * d ≤ p):¬ p % d = 0:=fun h => by
  rcases hp.2 d (Nat.dvd_of_mod_eq_zero h) with h1 | h1
  · omega
  · have:=Nat.mul_le_mul_right d h2; rw [h1] at this hs; have:=hp.1; omega
def dotH (p:Nat) (F:Nat → Nat):Nat → Nat
  | 0 => 0
  | j + 1 => (dotH p F j + F j) % p
theorem dotH_lt {p:Nat} {F:Nat → Nat} (hp:0 < p):∀ n,dotH p F n < p
  | 0 => hp
  | n + 1 => Nat.mod_lt _ hp
theorem dotH_em {p:Nat} {F:Nat → Nat}:∀ n,Em p (dotH p F n:Nat) (su n fun k => (F k:Int))
 | 0 => Em.rf _
 | n + 1 => by
  rw [dotH,su]
  exact (Em.md _).trans ((Em.of_eq (Int.natCast_add ..)).trans ((dotH_em n).add (Em.rf _)))
def mulH (p:Nat) (A B:List (List Nat)) (n:Nat):List (List Nat):=mkM A.length n fun i k => dotH p (fun j => (nd (A.getD i []) j % p) * (nd (B.getD j []) k % p)) n
theorem mulH_em {p n i k:Nat} {A B:List (List Nat)} (hi:i < A.length) (hk:k < n):Em p (en (mulH p A B n) i k) (mm n (en A) (en B) i k):=by
 have e:en (mulH p A B n) i k = (dotH p (fun j => (nd (A.getD i []) j % p) * (nd (B.getD j []) k % p)) n:Nat):=by
  unfold en mulH
  rw [show (mkM A.length n fun i k => dotH p (fun j => (nd (A.getD i []) j % p) * (nd (B.getD j []) k % p)) n).getD i [] = rowF n fun k => dotH p (fun j => (nd (A.getD i []) j % p) * (nd (B.getD j []) k % p)) n by simp [mkM,List.getD,hi],rowF_nd hk]
 rw [e]
 refine (dotH_em n).trans (su_em fun j _ => ?_)
 rw [Int.natCast_mul]
 exact (Em.md _).mul (Em.md _)
theorem mulH_len {p n:Nat} {A B:List (List Nat)}:(mulH p A B n).length = A.length:=mkM_len ..
theorem mulH_shp {p n:Nat} {A B:List (List Nat)} (hp:0 < p):Shp p n (mulH p A B n):=fun r hr => by
  obtain ⟨i,hi,rfl⟩:=List.mem_map.1 hr
  refine ⟨rowF_len _ _,fun x hx => ?_⟩
  obtain ⟨j,hj,rfl⟩:=List.mem_map.1 hx
  exact dotH_lt hp _
theorem MS.nil0 (w:World):MS w none 0 []:=⟨rfl,Nat.zero_le _,fun i row h => by simp at h⟩
theorem modM_self {p C:Nat} {M:List (List Nat)} (h:Shp p C M):modM p M = M:=by
  unfold modM
  rw [show M = M.map id from (List.map_id M).symm,List.map_map]
  refine List.map_congr_left fun r hr => ?_
  show r.map (· % p) = r
  conv => rhs; rw [← List.map_id r]
  exact List.map_congr_left fun x hx => Nat.mod_eq_of_lt ((h r hr).2 x hx)
theorem mkM_snoc {i n:Nat} {f:Nat → Nat → Nat} {Qs:List Rw} {p:Option Addr} {c:Nat} {xs:List Nat} (hq:nums Qs = mkM i n f) (hx:xs = rowF n (f i)):nums (Qs ++ [⟨p,c,xs⟩]) = mkM (i + 1) n f:=by rw [nums_app,hq,mkM_S,hx]
theorem wqprimeT {p:Nat} {w:World} (hp2:p < 4294967296) (hp:MR.Pr p) :
  Calls Tryd.prog 20 #[.int .u32 ((p:Nat):Int)] w (Ret (Is (.bool true)) w):=by
 have hp1:=hp.1
 have hS:=Sep.init w
 refine went Tryd.func20 rfl (n:=19) rfl rfl ?_
 refine wseq (wreg (wl rfl (oassign (v:=.bool false) rfl rfl evc ?_)))
 refine wnil (thenN (wseq (wseq (wreg (wl rfl (omove (v:=.int .u32 (p:Int)) rfl rfl (ev rfl rfl) ?_))))))
 refine wl rfl (obin (u:=.int .u32 (p:Int)) (v:=.int .u32 2) (z:=.bool false) rfl rfl (ev rfl rfl) evc (bin_lss (decide_eq_false (by omega))) ?_)
 refine wnil (thenN ?_)
 refine wF (ev rfl rfl) ?_
 refine wskip (thenN (wseq (wseq (wreg (wl rfl (oassign (v:=.int .u64 2) rfl rfl evc ?_))))))
 refine wnil (thenN (wblock ?_))
 refine wloop (σ := Nat) (fun q a9 w' => ∃ (fb:Nat → Value),a9 = act 19 (sets fb [(0,.int .u32 (p:Int)),(3,.int .u64 (q:Int))]) ∧ Sep w [] w' ∧ (2 ≤ q ∧ q ≤ 65536)) (fun q => 65536 - q) (2) ⟨_,act_sets (l:=[(0,.int .u32 (p:Int)),(3,.int .u64 2)]) ⟨rfl,rfl,trivial⟩,hS,by omega⟩ ?_
 clear hS; rintro q _ w1 ⟨fb,rfl,hS,hq⟩
 refine wseq (wseq (wreg (wl rfl (omove (v:=.int .u64 (q:Int)) rfl rfl (ev rfl rfl) ?_))))
 refine wl rfl (omove (v:=.int .u64 (q:Int)) rfl rfl (ev rfl rfl) ?_)
 refine wl rfl (obin (u:=.int .u64 (q:Int)) (v:=.int .u64 (q:Int)) (z:=.int .u64 (((q * q:Nat):Int))) rfl rfl (ev rfl rfl) (ev rfl rfl) (bin_mul (mul_u64 (by omega) (by omega))) ?_)
 refine wl rfl (omove (v:=.int .u32 (p:Int)) rfl rfl (ev rfl rfl) ?_)
 refine wl rfl (oconvert (u:=.int .u32 (p:Int)) (v:=.int .u64 (p:Int)) rfl rfl (ev rfl rfl) (convert_int Tryd.runUnderlying24 Tryd.runUnderlying44 (wrap_u64 (by omega) (by omega))) ?_)
 by_cases hqq:q * q ≤ p
 ·
  refine wl rfl (obin (u:=.int .u64 (((q * q:Nat):Int))) (v:=.int .u64 (p:Int)) (z:=.bool true) rfl rfl (ev rfl rfl) (ev rfl rfl) (bin_leq (decide_eq_true (by omega))) ?_)
  refine wnil (thenN ?_)
  refine wT (ev rfl rfl) ?_
  refine wskip (thenN (wseq (wblock (wseq (wreg (wl rfl (omove (v:=.int .u32 (p:Int)) rfl rfl (ev rfl rfl) ?_)))))))
  have hql:q < 65536:=sq_lt65 (by omega)
  have hz:=pr_no hp hq.1 hqq
  refine wl rfl (oconvert (u:=.int .u32 (p:Int)) (v:=.int .u64 (p:Int)) rfl rfl (ev rfl rfl) (convert_int Tryd.runUnderlying24 Tryd.runUnderlying44 (wrap_u64 (by omega) (by omega))) ?_)
  refine wl rfl (omove (v:=.int .u64 (q:Int)) rfl rfl (ev rfl rfl) ?_)
  refine wl rfl (obin (u:=.int .u64 (p:Int)) (v:=.int .u64 (q:Int)) (z:=.int .u64 (((p % q:Nat):Int))) rfl rfl (ev rfl rfl) (ev rfl rfl) (bin_rem (by omega) rfl) ?_)
  refine wl rfl (obin (u:=.int .u64 (((p % q:Nat):Int))) (v:=.int .u64 0) (z:=.bool false) rfl rfl (ev rfl rfl) evc (bin_eql (eqF (by omega))) ?_)
  refine wnil (thenN ?_)
  refine wF (ev rfl rfl) ?_
  refine wskip (blkN (thenN (wreg (wl rfl (omove (v:=.int .u64 (q:Int)) rfl rfl (ev rfl rfl) ?_)))))
  refine wl rfl (obin (u:=.int .u64 (q:Int)) (v:=.int .u64 1) (z:=.int .u64 (((q + 1:Nat):Int))) rfl rfl (ev rfl rfl) evc (bin_add (wrap_u64 (by omega) (by omega))) ?_)
  refine wl rfl (oassign (v:=.int .u64 (((q + 1:Nat):Int))) rfl rfl (ev rfl rfl) ?_)
  refine wnil (thenN ?_)
  exact ⟨(q + 1),⟨_,act_sets (l:=[(0,.int .u32 (p:Int)),(3,.int .u64 (((q + 1:Nat):Int)))]) ⟨rfl,rfl,trivial⟩,hS.pick [] (by decide) rfl,by omega⟩,by omega⟩
 ·
  refine wl rfl (obin (u:=.int .u64 (((q * q:Nat):Int))) (v:=.int .u64 (p:Int)) (z:=.bool false) rfl rfl (ev rfl rfl) (ev rfl rfl) (bin_leq (decide_eq_false (by omega))) ?_)
  refine wnil (thenN ?_)
  refine wF (ev rfl rfl) ?_
  refine wexit ?_
  refine thenE ?_
  refine thenE ?_
  refine blkE ?_
  refine thenN (wseq (wreg (wl rfl (oassign (v:=.bool true) rfl rfl evc ?_))))
  refine wnil (thenN ?_)
  refine wleave ?_
  refine wret1 Tryd.results20 (tellT (v:=.bool true) rfl rfl) ?_
  exact ⟨_,_,rfl,isI,hS.new0⟩
theorem wqprimeF {p : Nat} {w : World} (hp2 : p < 4294967296) (hp : ¬ MR.Pr p) :
    Calls Tryd.prog 20 #[.int .u32 ((p:Nat):Int)] w (Ret (Is (.bool false)) w):=by
  have hS:=Sep.init w
  refine went Tryd.func20 rfl (n:=19) rfl rfl ?_
  refine wseq (wreg (wl rfl (oassign (v:=.bool false) rfl rfl evc ?_)))
  refine wnil (thenN (wseq (wseq (wreg (wl rfl (omove (v:=.int .u32 (p:Int)) rfl rfl (ev rfl rfl) ?_))))))
  by_cases hlt:p < 2
  ·
    refine wl rfl (obin (u:=.int .u32 (p:Int)) (v:=.int .u32 2) (z:=.bool true) rfl rfl (ev rfl rfl) evc (bin_lss (decide_eq_true (by omega))) ?_)
    refine wnil (thenN ?_)
    refine wT (ev rfl rfl) ?_
    refine wseq (wreg (wl rfl (oassign (v:=.bool false) rfl rfl evc ?_)))
    refine wnil (thenN ?_)
    refine wleave ?_
    refine thenR ?_
    refine wret1 Tryd.results20 (tellT (v:=.bool false) rfl rfl) ?_
    exact ⟨_,_,rfl,isI,hS.new0⟩
  ·
    refine wl rfl (obin (u:=.int .u32 (p:Int)) (v:=.int .u32 2) (z:=.bool false) rfl rfl (ev rfl rfl) evc (bin_lss (decide_eq_false (by omega))) ?_)
    refine wnil (thenN ?_)
    refine wF (ev rfl rfl) ?_
    refine wskip (thenN (wseq (wseq (wreg (wl rfl (oassign (v:=.int .u64 2) rfl rfl evc ?_))))))
    refine wnil (thenN (wblock ?_))
    refine wloop (σ := Nat) (fun q a9 w' => ∃ (fb:Nat → Value),a9 = act 19 (sets fb [(0,.int .u32 (p:Int)),(3,.int .u64 (q:Int))]) ∧ Sep w [] w' ∧ (2 ≤ q ∧ q ≤ 65536) ∧ (∀ d,2 ≤ d → d < q → ¬ d ∣ p)) (fun q => 65536 - q) (2) ⟨_,act_sets (l:=[(0,.int .u32 (p:Int)),(3,.int .u64 2)]) ⟨rfl,rfl,trivial⟩,hS,by omega,fun d h1 h2 => by omega⟩ ?_
    clear hS; rintro q _ w1 ⟨fb,rfl,hS,hq,hno⟩
    refine wseq (wseq (wreg (wl rfl (omove (v:=.int .u64 (q:Int)) rfl rfl (ev rfl rfl) ?_))))
    refine wl rfl (omove (v:=.int .u64 (q:Int)) rfl rfl (ev rfl rfl) ?_)
    refine wl rfl (obin (u:=.int .u64 (q:Int)) (v:=.int .u64 (q:Int)) (z:=.int .u64 (((q * q:Nat):Int))) rfl rfl (ev rfl rfl) (ev rfl rfl) (bin_mul (mul_u64 (by omega) (by omega))) ?_)
    refine wl rfl (omove (v:=.int .u32 (p:Int)) rfl rfl (ev rfl rfl) ?_)
    refine wl rfl (oconvert (u:=.int .u32 (p:Int)) (v:=.int .u64 (p:Int)) rfl rfl (ev rfl rfl) (convert_int Tryd.runUnderlying24 Tryd.runUnderlying44 (wrap_u64 (by omega) (by omega))) ?_)
    by_cases hqq:q * q ≤ p
    ·
      refine wl rfl (obin (u:=.int .u64 (((q * q:Nat):Int))) (v:=.int .u64 (p:Int)) (z:=.bool true) rfl rfl (ev rfl rfl) (ev rfl rfl) (bin_leq (decide_eq_true (by omega))) ?_)
      refine wnil (thenN ?_)
      refine wT (ev rfl rfl) ?_
      refine wskip (thenN (wseq (wblock (wseq (wreg (wl rfl (omove (v:=.int .u32 (p:Int)) rfl rfl (ev rfl rfl) ?_)))))))
      have hql:q < 65536:=sq_lt65 (by omega)
      refine wl rfl (oconvert (u:=.int .u32 (p:Int)) (v:=.int .u64 (p:Int)) rfl rfl (ev rfl rfl) (convert_int Tryd.runUnderlying24 Tryd.runUnderlying44 (wrap_u64 (by omega) (by omega))) ?_)
      refine wl rfl (omove (v:=.int .u64 (q:Int)) rfl rfl (ev rfl rfl) ?_)
      refine wl rfl (obin (u:=.int .u64 (p:Int)) (v:=.int .u64 (q:Int)) (z:=.int .u64 (((p % q:Nat):Int))) rfl rfl (ev rfl rfl) (ev rfl rfl) (bin_rem (by omega) rfl) ?_)
      by_cases hz:p % q = 0
      ·
        refine wl rfl (obin (u:=.int .u64 (((p % q:Nat):Int))) (v:=.int .u64 0) (z:=.bool true) rfl rfl (ev rfl rfl) evc (bin_eql (eqT (by omega))) ?_)
        refine wnil (thenN ?_)
        refine wT (ev rfl rfl) ?_
        refine wseq (wreg (wl rfl (oassign (v:=.bool false) rfl rfl evc ?_)))
        refine wnil (thenN ?_)
        refine wleave ?_
        refine blkR ?_
        refine thenR ?_
        refine thenR ?_
        refine blkR ?_
        refine thenR ?_
        refine wret1 Tryd.results20 (tellT (v:=.bool false) rfl rfl) ?_
        exact ⟨_,_,rfl,isI,hS.new0⟩
      ·
        refine wl rfl (obin (u:=.int .u64 (((p % q:Nat):Int))) (v:=.int .u64 0) (z:=.bool false) rfl rfl (ev rfl rfl) evc (bin_eql (eqF (by omega))) ?_)
        refine wnil (thenN ?_)
        refine wF (ev rfl rfl) ?_
        refine wskip (blkN (thenN (wreg (wl rfl (omove (v:=.int .u64 (q:Int)) rfl rfl (ev rfl rfl) ?_)))))
        refine wl rfl (obin (u:=.int .u64 (q:Int)) (v:=.int .u64 1) (z:=.int .u64 (((q + 1:Nat):Int))) rfl rfl (ev rfl rfl) evc (bin_add (wrap_u64 (by omega) (by omega))) ?_)
        refine wl rfl (oassign (v:=.int .u64 (((q + 1:Nat):Int))) rfl rfl (ev rfl rfl) ?_)
        refine wnil (thenN ?_)
        exact ⟨(q + 1), ⟨_, act_sets (l := [(0, .int .u32 (p : Int)), (3, .int .u64 (((q + 1 : Nat) : Int)))]) ⟨rfl, rfl, trivial⟩, hS.pick [] (by decide) rfl, by omega, fun d h1 h2 hd => by
                      by_cases e:d = q
                      · rw [e] at hd; exact hz (Nat.mod_eq_zero_of_dvd hd)
                      · exact hno d h1 (by omega) hd⟩,by omega⟩
    ·
      refine wl rfl (obin (u:=.int .u64 (((q * q:Nat):Int))) (v:=.int .u64 (p:Int)) (z:=.bool false) rfl rfl (ev rfl rfl) (ev rfl rfl) (bin_leq (decide_eq_false (by omega))) ?_)
      refine wnil (thenN ?_)
      refine wF (ev rfl rfl) ?_
      refine wexit ?_
      refine thenE ?_
      refine thenE ?_
      refine blkE ?_
      refine thenN (wseq (wreg (wl rfl (oassign (v:=.bool true) rfl rfl evc ?_))))
      refine wnil (thenN ?_)
      refine wleave ?_
      exact absurd (pr_of_sq (by omega) fun d h1 h2 => hno d h1 (Nat.lt_of_not_le fun h => by have:=Nat.mul_le_mul h h; omega)) hp
theorem wqwords {pa pb:Option Addr} {na ca cb:Nat} {xs:List Nat} {w:World} (ha:Sl w pa na ca xs) (hb:Sl w pb na cb xs) (hn:na ≤ 1048576) :
  Calls Tryd.prog 14 #[.slice pa na ca,.slice pb na cb] w (Ret (Is (.bool true)) w):=by
 have hS:=Sep.init w
 refine went Tryd.func14 rfl (n:=26) rfl rfl ?_
 refine wseq (wreg (wl rfl (oassign (v:=.bool false) rfl rfl evc ?_)))
 refine wnil (thenN (wseq (wseq (wreg (wl rfl (omove (v:=.slice pa na ca) rfl rfl (ev rfl rfl) ?_))))))
 refine wl rfl (olen rfl rfl rfl Tryd.runUnderlying29 (p:=pa) (k:=na) (m:=ca) (ev rfl rfl) ?_)
 refine wl rfl (omove (v:=.slice pb na cb) rfl rfl (ev rfl rfl) ?_)
 refine wl rfl (olen rfl rfl rfl Tryd.runUnderlying29 (p:=pb) (k:=na) (m:=cb) (ev rfl rfl) ?_)
 refine wl rfl (obin (u:=.int .i64 (na:Int)) (v:=.int .i64 (na:Int)) (z:=.bool false) rfl rfl (ev rfl rfl) (ev rfl rfl) (bin_neq (neF rfl)) ?_)
 refine wnil (thenN ?_)
 refine wF (ev rfl rfl) ?_
 refine wskip (thenN (wseq (wseq (wreg (wl rfl (omove (v:=.slice pa na ca) rfl rfl (ev rfl rfl) ?_))))))
 refine wl rfl (olen rfl rfl rfl Tryd.runUnderlying29 (p:=pa) (k:=na) (m:=ca) (ev rfl rfl) ?_)
 refine wl rfl (omove (v:=.int .i64 0) rfl rfl evc ?_)
 refine wnil (thenN (wblock ?_))
 refine wloop (σ := Nat) (fun k a9 w' => ∃ (fb:Nat → Value),a9 = act 26 (sets fb [(0,.slice pa na ca),(1,.slice pb na cb),(12,.int .i64 (na:Int)),(13,.int .i64 (k:Int))]) ∧ Sep w [] w' ∧ (k ≤ na)) (fun k => na - k) (0) ⟨_,act_sets (l:=[(0,.slice pa na ca),(1,.slice pb na cb),(12,.int .i64 (na:Int)),(13,.int .i64 0)]) ⟨rfl,rfl,rfl,rfl,trivial⟩,hS,Nat.zero_le _⟩ ?_
 clear hS; rintro k _ w1 ⟨fb,rfl,hS,hk⟩
 refine wseq (wreg ?_)
 by_cases hlk:k < na
 ·
  obtain ⟨bce,oce,hpce,hcce⟩:=ha.el (show k < na by omega)
  obtain ⟨bcf,ocf,hpcf,hccf⟩:=hb.el (show k < na by omega)
  refine wl rfl (obin (u:=.int .i64 (k:Int)) (v:=.int .i64 (na:Int)) (z:=.bool true) rfl rfl (ev rfl rfl) (ev rfl rfl) (bin_lss (decide_eq_true (by omega))) ?_)
  refine wnil (thenN (wseq ?_))
  refine wT (ev rfl rfl) ?_
  refine wskip (thenN (wseq (wblock (wseq (wreg (wl rfl (omove (v:=.int .i64 (k:Int)) rfl rfl (ev rfl rfl) ?_)))))))
  refine wl rfl (oassign (v:=.int .i64 (k:Int)) rfl rfl (ev rfl rfl) ?_)
  refine wnil (thenN (wseq ?_))
  refine wstage 9 [16,17,18,19,20,21,22,23,24] [[],[],[0,1],[2,0,1],[],[],[4,5],[6,4,5],[3,7,0,1,2,4,5,6]] [[],[],[],[],[],[],[],[],[]] [] [] (fun i9 => ([fun _ => Is (.slice pa na ca),fun _ => Is (.int .i64 (k:Int)),fun _ => Is (.pointer (some ⟨bce,(oce + k * 1),none⟩)),fun _ => Is (.int .u32 (((nd xs k:Nat):Int))),fun _ => Is (.slice pb na cb),fun _ => Is (.int .i64 (k:Int)),fun _ => Is (.pointer (some ⟨bcf,(ocf + k * 1),none⟩)),fun _ => Is (.int .u32 (((nd xs k:Nat):Int))),fun _ => Is (.bool false)]:List (List Value → Tell)).getD i9 (fun _ _ _ => False)) (heldNil) (fun d _ _ _ _ h => (by cases d <;> exact h)) (by kernel_rfl) (by kernel_rfl) (by kernel_rfl) hS ?_ ?_
  ·
   refine stepsCons rfl (fun Q f' w' ρ S ho hT hS hB => ?_) ?_
   ·exact .inl ⟨want_none rfl,omove (v:=.slice pa na ca) rfl rfl (ev rfl (ho 0 rfl)) ⟨_,_,rfl,isI,New.same _⟩⟩
   refine stepsCons rfl (fun Q f' w' ρ S ho hT hS hB => ?_) ?_
   ·exact .inl ⟨want_none rfl,omove (v:=.int .i64 (k:Int)) rfl rfl (ev rfl (ho 5 rfl)) ⟨_,_,rfl,isI,New.same _⟩⟩
   refine stepsCons rfl (fun Q f' w' ρ S ho hT hS hB => ?_) ?_
   ·obtain ⟨hv0,hr0⟩:=(hT 0 16 rfl rfl:(Is (.slice pa na ca)) _ _)
    obtain ⟨hv1,hr1⟩:=(hT 1 17 rfl rfl:(Is (.int .i64 (((k:Nat):Int)))) _ _)
    obtain hS:=hS.flat2 hr0 hr1
    exact .inl ⟨want_none rfl,oindex (p:=pa) (g:=bce) (off:=oce) (m:=na) (k:=k) (j:=(oce + k * 1)) rfl rfl Tryd.runUnderlying29 Tryd.sizeOf24 (ev rfl hv0) (hpce) (ev rfl hv1) (by omega) rfl ⟨_,_,rfl,isI,New.same _⟩⟩
   refine stepsCons rfl (fun Q f' w' ρ S ho hT hS hB => ?_) ?_
   ·obtain ⟨hv2,hr2⟩:=(hT 2 18 rfl rfl:(Is (.pointer (some ⟨bce,(oce + k * 1),none⟩))) _ _)
    obtain hS:=hS.flat1 hr2
    exact .inl ⟨want_none rfl,oloadc (v:=.int .u32 (((nd xs k:Nat):Int))) one32 rfl rfl (ev (v:=.pointer (some ⟨bce,(oce + k * 1),none⟩)) rfl hv2) (hS.cellAt (hcce 0 _ rfl)) ⟨_,_,rfl,isI,New.same _⟩⟩
   refine stepsCons rfl (fun Q f' w' ρ S ho hT hS hB => ?_) ?_
   ·exact .inl ⟨want_none rfl,omove (v:=.slice pb na cb) rfl rfl (ev rfl (ho 1 rfl)) ⟨_,_,rfl,isI,New.same _⟩⟩
   refine stepsCons rfl (fun Q f' w' ρ S ho hT hS hB => ?_) ?_
   ·exact .inl ⟨want_none rfl,omove (v:=.int .i64 (k:Int)) rfl rfl (ev rfl (ho 5 rfl)) ⟨_,_,rfl,isI,New.same _⟩⟩
   refine stepsCons rfl (fun Q f' w' ρ S ho hT hS hB => ?_) ?_
   ·obtain ⟨hv4,hr4⟩:=(hT 4 20 rfl rfl:(Is (.slice pb na cb)) _ _)
    obtain ⟨hv5,hr5⟩:=(hT 5 21 rfl rfl:(Is (.int .i64 (((k:Nat):Int)))) _ _)
    obtain hS:=hS.flat2 hr4 hr5
    exact .inl ⟨want_none rfl,oindex (p:=pb) (g:=bcf) (off:=ocf) (m:=na) (k:=k) (j:=(ocf + k * 1)) rfl rfl Tryd.runUnderlying29 Tryd.sizeOf24 (ev rfl hv4) (hpcf) (ev rfl hv5) (by omega) rfl ⟨_,_,rfl,isI,New.same _⟩⟩
   refine stepsCons rfl (fun Q f' w' ρ S ho hT hS hB => ?_) ?_
   ·obtain ⟨hv6,hr6⟩:=(hT 6 22 rfl rfl:(Is (.pointer (some ⟨bcf,(ocf + k * 1),none⟩))) _ _)
    obtain hS:=hS.flat1 hr6
    exact .inl ⟨want_none rfl,oloadc (v:=.int .u32 (((nd xs k:Nat):Int))) one32 rfl rfl (ev (v:=.pointer (some ⟨bcf,(ocf + k * 1),none⟩)) rfl hv6) (hS.cellAt (hccf 0 _ rfl)) ⟨_,_,rfl,isI,New.same _⟩⟩
   refine stepsCons rfl (fun Q f' w' ρ S ho hT hS hB => ?_) ?_
   ·obtain ⟨hv3,hr3⟩:=(hT 3 19 rfl rfl:(Is (.int .u32 (((nd xs k:Nat):Int)))) _ _)
    obtain ⟨hv7,hr7⟩:=(hT 7 23 rfl rfl:(Is (.int .u32 (((nd xs k:Nat):Int)))) _ _)
    obtain hS:=hS.flat2 hr3 hr7
    exact .inl ⟨want_none rfl,obin (u:=.int .u32 (((nd xs k:Nat):Int))) (v:=.int .u32 (((nd xs k:Nat):Int))) (z:=.bool false) rfl rfl (ev rfl hv3) (ev rfl hv7) (bin_neq (neF rfl)) ⟨_,_,rfl,isI,New.same _⟩⟩
   exact stepsNil
  ·
   intro vs ρ w2 f' hf hT hS
   obtain ⟨hv0,hr0⟩:=(hT 0 (by decide):(Is (.slice pa na ca)) _ _)
   obtain ⟨hv1,hr1⟩:=(hT 1 (by decide):(Is (.int .i64 (((k:Nat):Int)))) _ _)
   obtain ⟨hv2,hr2⟩:=(hT 2 (by decide):(Is (.pointer (some ⟨bce,(oce + k * 1),none⟩))) _ _)
   obtain ⟨hv3,hr3⟩:=(hT 3 (by decide):(Is (.int .u32 (((nd xs k:Nat):Int)))) _ _)
   obtain ⟨hv4,hr4⟩:=(hT 4 (by decide):(Is (.slice pb na cb)) _ _)
   obtain ⟨hv5,hr5⟩:=(hT 5 (by decide):(Is (.int .i64 (((k:Nat):Int)))) _ _)
   obtain ⟨hv6,hr6⟩:=(hT 6 (by decide):(Is (.pointer (some ⟨bcf,(ocf + k * 1),none⟩))) _ _)
   obtain ⟨hv7,hr7⟩:=(hT 7 (by decide):(Is (.int .u32 (((nd xs k:Nat):Int)))) _ _)
   obtain ⟨hv8,hr8⟩:=(hT 8 (by decide):(Is (.bool false)) _ _)
   simp only [pool,if_true,hr0,hr1,hr2,hr3,hr4,hr5,hr6,hr7,hr8,List.nil_append,List.cons_append,List.append_nil] at hS
   simp only [layf,hv0,hv1,hv2,hv3,hv4,hv5,hv6,hv7,hv8] at hf
   subst hf; clear hT hv0 hv1 hv2 hv3 hv4 hv5 hv6 hv7 hv8 hr0 hr1 hr2 hr3 hr4 hr5 hr6 hr7 hr8
   refine wdone rfl ?_
   refine thenN ?_
   refine wF (ev rfl rfl) ?_
   refine wskip (blkN (thenN (wreg (wl rfl (obin (u:=.int .i64 (k:Int)) (v:=.int .i64 1) (z:=.int .i64 (((k + 1:Nat):Int))) rfl rfl (ev rfl rfl) evc (bin_add (wrap_i64 (by omega) (by omega))) ?_)))))
   refine wl rfl (omove (v:=.int .i64 (((k + 1:Nat):Int))) rfl rfl (ev rfl rfl) ?_)
   refine wnil (thenN ?_)
   exact ⟨(k + 1),⟨_,act_sets (l:=[(0,.slice pa na ca),(1,.slice pb na cb),(12,.int .i64 (na:Int)),(13,.int .i64 (((k + 1:Nat):Int)))]) ⟨rfl,rfl,rfl,rfl,trivial⟩,hS.pick [] (by decide) rfl,by omega⟩,by omega⟩
 ·
  refine wl rfl (obin (u:=.int .i64 (k:Int)) (v:=.int .i64 (na:Int)) (z:=.bool false) rfl rfl (ev rfl rfl) (ev rfl rfl) (bin_lss (decide_eq_false (by omega))) ?_)
  refine wnil (thenN (wseq ?_))
  refine wF (ev rfl rfl) ?_
  refine wexit ?_
  refine thenE ?_
  refine thenE ?_
  refine blkE ?_
  refine thenN (wseq (wreg (wl rfl (oassign (v:=.bool true) rfl rfl evc ?_))))
  refine wnil (thenN ?_)
  refine wleave ?_
  refine wret1 Tryd.results14 (tellT (v:=.bool true) rfl rfl) ?_
  exact ⟨_,_,rfl,isI,hS.new0⟩
theorem wqsame {pa pb:Option Addr} {na ca cb:Nat} {M:List (List Nat)} {w:World} (hA:MS w pa na M) (hB:MS w pb na M) (hs:na ≤ 2097152 ∧ ∀ r ∈ M,r.length ≤ 1048576) :
  Calls Tryd.prog 11 #[.slice pa na ca,.slice pb na cb] w (Ret (Is (.bool true)) w):=by
 have hml:=hA.1
 have hS:=Sep.init w
 refine went Tryd.func11 rfl (n:=27) rfl rfl ?_
 refine wseq (wreg (wl rfl (oassign (v:=.bool false) rfl rfl evc ?_)))
 refine wnil (thenN (wseq (wseq (wreg (wl rfl (omove (v:=.slice pa na ca) rfl rfl (ev rfl rfl) ?_))))))
 refine wl rfl (olen rfl rfl rfl Tryd.runUnderlying23 (p:=pa) (k:=na) (m:=ca) (ev rfl rfl) ?_)
 refine wl rfl (omove (v:=.slice pb na cb) rfl rfl (ev rfl rfl) ?_)
 refine wl rfl (olen rfl rfl rfl Tryd.runUnderlying23 (p:=pb) (k:=na) (m:=cb) (ev rfl rfl) ?_)
 refine wl rfl (obin (u:=.int .i64 (na:Int)) (v:=.int .i64 (na:Int)) (z:=.bool false) rfl rfl (ev rfl rfl) (ev rfl rfl) (bin_neq (neF rfl)) ?_)
 refine wnil (thenN ?_)
 refine wF (ev rfl rfl) ?_
 refine wskip (thenN (wseq (wseq (wreg (wl rfl (omove (v:=.slice pa na ca) rfl rfl (ev rfl rfl) ?_))))))
 refine wl rfl (olen rfl rfl rfl Tryd.runUnderlying23 (p:=pa) (k:=na) (m:=ca) (ev rfl rfl) ?_)
 refine wl rfl (omove (v:=.int .i64 0) rfl rfl evc ?_)
 refine wnil (thenN (wblock ?_))
 refine wloop (σ := Nat) (fun i a9 w' => ∃ (fb:Nat → Value),a9 = act 27 (sets fb [(0,.slice pa na ca),(1,.slice pb na cb),(12,.int .i64 (na:Int)),(13,.int .i64 (i:Int))]) ∧ Sep w [] w' ∧ (i ≤ na)) (fun i => na - i) (0) ⟨_,act_sets (l:=[(0,.slice pa na ca),(1,.slice pb na cb),(12,.int .i64 (na:Int)),(13,.int .i64 0)]) ⟨rfl,rfl,rfl,rfl,trivial⟩,hS,Nat.zero_le _⟩ ?_
 clear hS; rintro i _ w1 ⟨fb,rfl,hS,hi⟩
 refine wseq (wreg ?_)
 by_cases hli:i < na
 ·
  obtain ⟨xr,hxr⟩:∃ r,(M)[i]? = some r:=⟨_,List.getElem?_eq_getElem (by have:=hA.1; omega)⟩
  obtain ⟨br,ofr,pr,cr,hpr,hcr,hsr⟩:=hA.2.2 i _ hxr
  obtain ⟨xt,hxt⟩:∃ r,(M)[i]? = some r:=⟨_,List.getElem?_eq_getElem (by have:=hB.1; omega)⟩
  obtain ⟨bt,oft,pt,ct,hpt,hct,hst⟩:=hB.2.2 i _ hxt
  obtain rfl:xr = xt:=Option.some.inj (hxr.symm.trans hxt)
  have hb9:=hs.2 xr (List.mem_of_getElem? hxr)
  refine wl rfl (obin (u:=.int .i64 (i:Int)) (v:=.int .i64 (na:Int)) (z:=.bool true) rfl rfl (ev rfl rfl) (ev rfl rfl) (bin_lss (decide_eq_true (by omega))) ?_)
  refine wnil (thenN (wseq ?_))
  refine wT (ev rfl rfl) ?_
  refine wskip (thenN (wseq (wblock (wseq (wreg (wl rfl (omove (v:=.int .i64 (i:Int)) rfl rfl (ev rfl rfl) ?_)))))))
  refine wl rfl (oassign (v:=.int .i64 (i:Int)) rfl rfl (ev rfl rfl) ?_)
  refine wnil (thenN (wseq ?_))
  refine wstage 10 [16,17,18,19,20,21,22,23,24,25] [[],[],[0,1],[2,0,1],[],[],[4,5],[6,4,5],[3,7,0,1,2,4,5,6],[8,0,1,2,3,4,5,6,7]] [[],[],[],[],[],[],[],[],[],[]] [] [] (fun i9 => ([fun _ => Is (.slice pa na ca),fun _ => Is (.int .i64 (i:Int)),fun _ => Is (.pointer (some ⟨br,(ofr + i * 1),none⟩)),fun _ => Is (.slice pr xr.length cr),fun _ => Is (.slice pb na cb),fun _ => Is (.int .i64 (i:Int)),fun _ => Is (.pointer (some ⟨bt,(oft + i * 1),none⟩)),fun _ => Is (.slice pt xr.length ct),fun _ => Is (.bool true),fun _ => Is (.bool false)]:List (List Value → Tell)).getD i9 (fun _ _ _ => False)) (heldNil) (fun d _ _ _ _ h => (by cases d <;> exact h)) (by kernel_rfl) (by kernel_rfl) (by kernel_rfl) hS ?_ ?_
  ·
   refine stepsCons rfl (fun Q f' w' ρ S ho hT hS hB => ?_) ?_
   ·exact .inl ⟨want_none rfl,omove (v:=.slice pa na ca) rfl rfl (ev rfl (ho 0 rfl)) ⟨_,_,rfl,isI,New.same _⟩⟩
   refine stepsCons rfl (fun Q f' w' ρ S ho hT hS hB => ?_) ?_
   ·exact .inl ⟨want_none rfl,omove (v:=.int .i64 (i:Int)) rfl rfl (ev rfl (ho 5 rfl)) ⟨_,_,rfl,isI,New.same _⟩⟩
   refine stepsCons rfl (fun Q f' w' ρ S ho hT hS hB => ?_) ?_
   ·obtain ⟨hv0,hr0⟩:=(hT 0 16 rfl rfl:(Is (.slice pa na ca)) _ _)
    obtain ⟨hv1,hr1⟩:=(hT 1 17 rfl rfl:(Is (.int .i64 (((i:Nat):Int)))) _ _)
    obtain hS:=hS.flat2 hr0 hr1
    exact .inl ⟨want_none rfl,oindex (p:=pa) (g:=br) (off:=ofr) (m:=na) (k:=i) (j:=(ofr + i * 1)) rfl rfl Tryd.runUnderlying23 Tryd.sizeOf29 (ev rfl hv0) (hpr) (ev rfl hv1) (by omega) rfl ⟨_,_,rfl,isI,New.same _⟩⟩
   refine stepsCons rfl (fun Q f' w' ρ S ho hT hS hB => ?_) ?_
   ·obtain ⟨hv2,hr2⟩:=(hT 2 18 rfl rfl:(Is (.pointer (some ⟨br,(ofr + i * 1),none⟩))) _ _)
    obtain hS:=hS.flat1 hr2
    exact .inl ⟨want_none rfl,oloadc (v:=.slice pr xr.length cr) (show One Tryd.prog 29 from ⟨Tryd.isAgg29,Tryd.sizeOf29⟩) rfl rfl (ev (v:=.pointer (some ⟨br,(ofr + i * 1),none⟩)) rfl hv2) (hS.cellAt (hcr 0 _ rfl)) ⟨_,_,rfl,isI,New.same _⟩⟩
   refine stepsCons rfl (fun Q f' w' ρ S ho hT hS hB => ?_) ?_
   ·exact .inl ⟨want_none rfl,omove (v:=.slice pb na cb) rfl rfl (ev rfl (ho 1 rfl)) ⟨_,_,rfl,isI,New.same _⟩⟩
   refine stepsCons rfl (fun Q f' w' ρ S ho hT hS hB => ?_) ?_
   ·exact .inl ⟨want_none rfl,omove (v:=.int .i64 (i:Int)) rfl rfl (ev rfl (ho 5 rfl)) ⟨_,_,rfl,isI,New.same _⟩⟩
   refine stepsCons rfl (fun Q f' w' ρ S ho hT hS hB => ?_) ?_
   ·obtain ⟨hv4,hr4⟩:=(hT 4 20 rfl rfl:(Is (.slice pb na cb)) _ _)
    obtain ⟨hv5,hr5⟩:=(hT 5 21 rfl rfl:(Is (.int .i64 (((i:Nat):Int)))) _ _)
    obtain hS:=hS.flat2 hr4 hr5
    exact .inl ⟨want_none rfl,oindex (p:=pb) (g:=bt) (off:=oft) (m:=na) (k:=i) (j:=(oft + i * 1)) rfl rfl Tryd.runUnderlying23 Tryd.sizeOf29 (ev rfl hv4) (hpt) (ev rfl hv5) (by omega) rfl ⟨_,_,rfl,isI,New.same _⟩⟩
   refine stepsCons rfl (fun Q f' w' ρ S ho hT hS hB => ?_) ?_
   ·obtain ⟨hv6,hr6⟩:=(hT 6 22 rfl rfl:(Is (.pointer (some ⟨bt,(oft + i * 1),none⟩))) _ _)
    obtain hS:=hS.flat1 hr6
    exact .inl ⟨want_none rfl,oloadc (v:=.slice pt xr.length ct) (show One Tryd.prog 29 from ⟨Tryd.isAgg29,Tryd.sizeOf29⟩) rfl rfl (ev (v:=.pointer (some ⟨bt,(oft + i * 1),none⟩)) rfl hv6) (hS.cellAt (hct 0 _ rfl)) ⟨_,_,rfl,isI,New.same _⟩⟩
   refine stepsCons rfl (fun Q f' w' ρ S ho hT hS hB => ?_) ?_
   ·obtain ⟨hv3,hr3⟩:=(hT 3 19 rfl rfl:(Is (.slice pr xr.length cr)) _ _)
    obtain ⟨hv7,hr7⟩:=(hT 7 23 rfl rfl:(Is (.slice pt xr.length ct)) _ _)
    obtain hS:=hS.flat2 hr3 hr7
    exact .inl ⟨want_none rfl,ocall rfl rfl Tryd.call14 rfl (wqwords (hsr.below hS.below (Nat.le_refl _)) (hst.below hS.below (Nat.le_refl _)) (by omega)) (args2 (ev rfl hv3) (ev rfl hv7)) callN⟩
   refine stepsCons rfl (fun Q f' w' ρ S ho hT hS hB => ?_) ?_
   ·obtain ⟨hv8,hr8⟩:=(hT 8 24 rfl rfl:(Is (.bool true)) _ _)
    obtain hS:=hS.flat1 hr8
    exact .inl ⟨want_none rfl,onot (b:=true) rfl rfl (ev rfl hv8) ⟨_,_,rfl,isI,New.same _⟩⟩
   exact stepsNil
  ·
   intro vs ρ w2 f' hf hT hS
   obtain ⟨hv0,hr0⟩:=(hT 0 (by decide):(Is (.slice pa na ca)) _ _)
   obtain ⟨hv1,hr1⟩:=(hT 1 (by decide):(Is (.int .i64 (((i:Nat):Int)))) _ _)
   obtain ⟨hv2,hr2⟩:=(hT 2 (by decide):(Is (.pointer (some ⟨br,(ofr + i * 1),none⟩))) _ _)
   obtain ⟨hv3,hr3⟩:=(hT 3 (by decide):(Is (.slice pr xr.length cr)) _ _)
   obtain ⟨hv4,hr4⟩:=(hT 4 (by decide):(Is (.slice pb na cb)) _ _)
   obtain ⟨hv5,hr5⟩:=(hT 5 (by decide):(Is (.int .i64 (((i:Nat):Int)))) _ _)
   obtain ⟨hv6,hr6⟩:=(hT 6 (by decide):(Is (.pointer (some ⟨bt,(oft + i * 1),none⟩))) _ _)
   obtain ⟨hv7,hr7⟩:=(hT 7 (by decide):(Is (.slice pt xr.length ct)) _ _)
   obtain ⟨hv8,hr8⟩:=(hT 8 (by decide):(Is (.bool true)) _ _)
   obtain ⟨hv9,hr9⟩:=(hT 9 (by decide):(Is (.bool false)) _ _)
   simp only [pool,if_true,hr0,hr1,hr2,hr3,hr4,hr5,hr6,hr7,hr8,hr9,List.nil_append,List.cons_append,List.append_nil] at hS
   simp only [layf,hv0,hv1,hv2,hv3,hv4,hv5,hv6,hv7,hv8,hv9] at hf
   subst hf; clear hT hv0 hv1 hv2 hv3 hv4 hv5 hv6 hv7 hv8 hv9 hr0 hr1 hr2 hr3 hr4 hr5 hr6 hr7 hr8 hr9
   refine wdone rfl ?_
   refine thenN ?_
   refine wF (ev rfl rfl) ?_
   refine wskip (blkN (thenN (wreg (wl rfl (obin (u:=.int .i64 (i:Int)) (v:=.int .i64 1) (z:=.int .i64 (((i + 1:Nat):Int))) rfl rfl (ev rfl rfl) evc (bin_add (wrap_i64 (by omega) (by omega))) ?_)))))
   refine wl rfl (omove (v:=.int .i64 (((i + 1:Nat):Int))) rfl rfl (ev rfl rfl) ?_)
   refine wnil (thenN ?_)
   exact ⟨(i + 1),⟨_,act_sets (l:=[(0,.slice pa na ca),(1,.slice pb na cb),(12,.int .i64 (na:Int)),(13,.int .i64 (((i + 1:Nat):Int)))]) ⟨rfl,rfl,rfl,rfl,trivial⟩,hS.pick [] (by decide) rfl,by omega⟩,by omega⟩
 ·
  refine wl rfl (obin (u:=.int .i64 (i:Int)) (v:=.int .i64 (na:Int)) (z:=.bool false) rfl rfl (ev rfl rfl) (ev rfl rfl) (bin_lss (decide_eq_false (by omega))) ?_)
  refine wnil (thenN (wseq ?_))
  refine wF (ev rfl rfl) ?_
  refine wexit ?_
  refine thenE ?_
  refine thenE ?_
  refine blkE ?_
  refine thenN (wseq (wreg (wl rfl (oassign (v:=.bool true) rfl rfl evc ?_))))
  refine wnil (thenN ?_)
  refine wleave ?_
  refine wret1 Tryd.results11 (tellT (v:=.bool true) rfl rfl) ?_
  exact ⟨_,_,rfl,isI,hS.new0⟩
theorem wdnorm {pm:Option Addr} {nm cm p:Nat} {M:List (List Nat)} {w:World} (hm:MS w pm nm M) (hp0:0 < p) (hp2:p < 4294967296) (hb1:nm ≤ 2097152) (hb2:∀ r ∈ M,r.length ≤ 1048576) :
  Calls Tryd.prog 17 #[.slice pm nm cm,.int .u32 ((p:Nat):Int)] w (Ret (MMh nm (modM p M)) w):=by
 have hml:=hm.1
 have hS:=Sep.init w
 refine went Tryd.func17 rfl (n:=40) rfl rfl ?_
 refine wseq (wreg (wl rfl (oassign (v:=.slice none 0 0) rfl rfl evc ?_)))
 refine wnil (thenN (wseq (wreg (wl rfl (oassign (v:=.slice none 0 0) rfl rfl evc ?_)))))
 refine wnil (thenN (wseq (wseq (wreg (wl rfl (omove (v:=.slice pm nm cm) rfl rfl (ev rfl rfl) ?_))))))
 refine wl rfl (olen rfl rfl rfl Tryd.runUnderlying23 (p:=pm) (k:=nm) (m:=cm) (ev rfl rfl) ?_)
 refine wl rfl (omove (v:=.int .i64 0) rfl rfl evc ?_)
 refine wnil (thenN (wblock ?_))
 replace hS:=hS.nilLst 29 1
 refine wloop (σ := Nat) (fun i a9 w' => ∃ (fb:Nat → Value) (Q:List Rw) (pX:Option Addr) (cX:Nat),a9 = act 40 (sets fb [(1,.int .u32 (p:Int)),(4,.slice none 0 0),(5,.slice pX i cX),(11,.slice pm nm cm),(12,.int .i64 (nm:Int)),(13,.int .i64 (i:Int))]) ∧ Sep w [.lst 29 1 pX i cX (mmE Q)] w' ∧ (i ≤ nm) ∧ (nums Q = modM p (M.take i))) (fun i => nm - i) (0) ⟨_,[],none,0,act_sets (l:=[(1,.int .u32 (p:Int)),(4,.slice none 0 0),(5,.slice none 0 0),(11,.slice pm nm cm),(12,.int .i64 (nm:Int)),(13,.int .i64 0)]) ⟨rfl,rfl,rfl,rfl,rfl,rfl,trivial⟩,hS,Nat.zero_le _,rfl⟩ ?_
 clear hS; rintro i _ w1 ⟨fb,Q,pX,cX,rfl,hS,hi,hQ⟩
 refine wseq (wreg ?_)
 by_cases hli:i < nm
 ·
  obtain ⟨xr,hxr⟩:∃ r,(M)[i]? = some r:=⟨_,List.getElem?_eq_getElem (by have:=hm.1; omega)⟩
  obtain ⟨br,ofr,pr,cr,hpr,hcr,hsr⟩:=hm.2.2 i _ hxr
  have hrb:=hb2 xr (List.mem_of_getElem? hxr)
  refine wl rfl (obin (u:=.int .i64 (i:Int)) (v:=.int .i64 (nm:Int)) (z:=.bool true) rfl rfl (ev rfl rfl) (ev rfl rfl) (bin_lss (decide_eq_true (by omega))) ?_)
  refine wnil (thenN (wseq ?_))
  refine wT (ev rfl rfl) ?_
  refine wskip (thenN (wseq (wblock (wseq (wreg (wl rfl (oindex (p:=pm) (g:=br) (off:=ofr) (m:=nm) (k:=i) (j:=(ofr + i * 1)) rfl rfl Tryd.runUnderlying23 Tryd.sizeOf29 (ev rfl rfl) (hpr) (ev rfl rfl) (by omega) rfl ?_)))))))
  refine wl rfl (oloadc (v:=.slice pr xr.length cr) (show One Tryd.prog 29 from ⟨Tryd.isAgg29,Tryd.sizeOf29⟩) rfl rfl (ev (v:=.pointer (some ⟨br,(ofr + i * 1),none⟩)) rfl rfl) (hS.cellAt (hcr 0 _ rfl)) ?_)
  refine wl rfl (oassign (v:=.slice pr xr.length cr) rfl rfl (ev rfl rfl) ?_)
  refine wnil (thenN (wseq (wreg (wl rfl (omove (v:=.slice pr xr.length cr) rfl rfl (ev rfl rfl) ?_)))))
  refine wl rfl (olen rfl rfl rfl Tryd.runUnderlying29 (p:=pr) (k:=xr.length) (m:=cr) (ev rfl rfl) ?_)
  refine wl rfl (omakeL (zs:=[.int .u32 0]) (k:=xr.length) (m:=xr.length) hS rfl rfl Tryd.underlying29 infouint32 rfl rfl (by decide) rfl (ev (v:=.int .i64 (xr.length:Int)) rfl rfl) (ev (v:=.int .i64 (xr.length:Int)) rfl rfl) (by omega) (by omega) (by omega) ?_)
  clear hS; intro g2 w3 hS
  refine wl rfl (oassign (v:=.slice (some ⟨g2,0,none⟩) xr.length xr.length) rfl rfl (ev rfl rfl) ?_)
  refine wnil (thenN (wseq (wseq (wreg (wl rfl (omove (v:=.slice pr xr.length cr) rfl rfl (ev rfl rfl) ?_))))))
  refine wl rfl (olen rfl rfl rfl Tryd.runUnderlying29 (p:=pr) (k:=xr.length) (m:=cr) (ev rfl rfl) ?_)
  refine wl rfl (omove (v:=.int .i64 0) rfl rfl evc ?_)
  refine wnil (thenN (wblock ?_))
  obtain hS:=(show Sep w [.lst 24 1 (some ⟨g2,0,none⟩) xr.length xr.length (u32E (List.replicate xr.length 0)),.lst 29 1 pX i cX (mmE Q)] w3 from by rw [u32E_rep]; exact hS).lstRow (lims_zeros _)
  rw [← mixR_zero (xr.map (· % p)) (List.replicate xr.length 0)] at hS
  refine wloop (σ := Nat) (fun k a9 w' => ∃ (fb:Nat → Value),a9 = act 40 (sets fb [(1,.int .u32 (p:Int)),(4,.slice none 0 0),(5,.slice pX i cX),(8,.slice (some ⟨g2,0,none⟩) xr.length xr.length),(11,.slice pm nm cm),(12,.int .i64 (nm:Int)),(13,.int .i64 (i:Int)),(20,.slice pr xr.length cr),(21,.int .i64 (xr.length:Int)),(22,.int .i64 (k:Int))]) ∧ Sep w [.rowm (some ⟨g2,0,none⟩) xr.length xr.length (mixR (xr.map (· % p)) (List.replicate xr.length 0) k),.lst 29 1 pX i cX (mmE Q)] w' ∧ (k ≤ xr.length)) (fun k => xr.length - k) (0) ⟨_,act_sets (l:=[(1,.int .u32 (p:Int)),(4,.slice none 0 0),(5,.slice pX i cX),(8,.slice (some ⟨g2,0,none⟩) xr.length xr.length),(11,.slice pm nm cm),(12,.int .i64 (nm:Int)),(13,.int .i64 (i:Int)),(20,.slice pr xr.length cr),(21,.int .i64 (xr.length:Int)),(22,.int .i64 0)]) ⟨rfl,rfl,rfl,rfl,rfl,rfl,rfl,rfl,rfl,rfl,trivial⟩,hS,Nat.zero_le _⟩ ?_
  clear hS; rintro k _ w4 ⟨fb,rfl,hS,hk⟩
  refine wseq (wreg ?_)
  by_cases hlk:k < xr.length
  ·
   obtain ⟨bce,oce,hpce,hcce⟩:=hsr.el (show k < xr.length by omega)
   have hl9:=hsr.lim1 k
   have hm9:=Nat.mod_lt (nd xr k) hp0
   refine wl rfl (obin (u:=.int .i64 (k:Int)) (v:=.int .i64 (xr.length:Int)) (z:=.bool true) rfl rfl (ev rfl rfl) (ev rfl rfl) (bin_lss (decide_eq_true (by omega))) ?_)
   refine wnil (thenN (wseq ?_))
   refine wT (ev rfl rfl) ?_
   refine wskip (thenN (wseq (wblock (wseq (wreg (wl rfl (omove (v:=.int .i64 (k:Int)) rfl rfl (ev rfl rfl) ?_)))))))
   refine wl rfl (oindex (p:=pr) (g:=bce) (off:=oce) (m:=xr.length) (k:=k) (j:=(oce + k * 1)) rfl rfl Tryd.runUnderlying29 Tryd.sizeOf24 (ev rfl rfl) (hpce) (ev rfl rfl) (by omega) rfl ?_)
   refine wl rfl (oloadc (v:=.int .u32 (((nd xr k:Nat):Int))) one32 rfl rfl (ev (v:=.pointer (some ⟨bce,(oce + k * 1),none⟩)) rfl rfl) (hS.cellAt (hcce 0 _ rfl)) ?_)
   refine wl rfl (oassign (v:=.int .i64 (k:Int)) rfl rfl (ev rfl rfl) ?_)
   refine wl rfl (oassign (v:=.int .u32 (((nd xr k:Nat):Int))) rfl rfl (ev rfl rfl) ?_)
   refine wnil (thenN (wreg (wl rfl (omove (v:=.slice (some ⟨g2,0,none⟩) xr.length xr.length) rfl rfl (ev rfl rfl) ?_))))
   refine wl rfl (omove (v:=.int .i64 (k:Int)) rfl rfl (ev rfl rfl) ?_)
   refine wl rfl (omove (v:=.int .u32 (((nd xr k:Nat):Int))) rfl rfl (ev rfl rfl) ?_)
   refine wl rfl (omove (v:=.int .u32 (p:Int)) rfl rfl (ev rfl rfl) ?_)
   refine wl rfl (obin (u:=.int .u32 (((nd xr k:Nat):Int))) (v:=.int .u32 (p:Int)) (z:=.int .u32 (((nd xr k % p:Nat):Int))) rfl rfl (ev rfl rfl) (ev rfl rfl) (bin_rem (by omega) rfl) ?_)
   refine wl rfl (oindex (p:=(some ⟨g2,0,none⟩)) (g:=g2) (off:=0) (m:=xr.length) (k:=k) (j:=k) rfl rfl Tryd.runUnderlying29 Tryd.sizeOf24 (ev rfl rfl) (rfl) (ev rfl rfl) (by omega) (by simp) ?_)
   refine wl rfl (ostoreRow (i:=k) (u:=(nd xr k % p)) Tryd.sizeOf24 hS 0 rfl rfl (ev (v:=.pointer (some ⟨g2,k,none⟩)) rfl rfl) ((ev (v:=.int .u32 (((nd xr k % p:Nat):Int))) rfl rfl)) rfl (rfl) ((by omega)) (by omega) ?_)
   clear hS; intro w5 hS
   refine wnil (blkN (thenN (wreg (wl rfl (obin (u:=.int .i64 (k:Int)) (v:=.int .i64 1) (z:=.int .i64 (((k + 1:Nat):Int))) rfl rfl (ev rfl rfl) evc (bin_add (wrap_i64 (by omega) (by omega))) ?_)))))
   refine wl rfl (omove (v:=.int .i64 (((k + 1:Nat):Int))) rfl rfl (ev rfl rfl) ?_)
   refine wnil (thenN ?_)
   rw [mixR_set (new:=xr.map (· % p)) (old:=(List.replicate xr.length 0)) (by rw [List.length_map,List.length_replicate]) (by rw [List.length_replicate]; omega) (nd_mod k).symm] at hS
   exact ⟨(k + 1),⟨_,act_sets (l:=[(1,.int .u32 (p:Int)),(4,.slice none 0 0),(5,.slice pX i cX),(8,.slice (some ⟨g2,0,none⟩) xr.length xr.length),(11,.slice pm nm cm),(12,.int .i64 (nm:Int)),(13,.int .i64 (i:Int)),(20,.slice pr xr.length cr),(21,.int .i64 (xr.length:Int)),(22,.int .i64 (((k + 1:Nat):Int)))]) ⟨rfl,rfl,rfl,rfl,rfl,rfl,rfl,rfl,rfl,rfl,trivial⟩,hS.pick [0,1] (by decide) rfl,by omega⟩,by omega⟩
  ·
   refine wl rfl (obin (u:=.int .i64 (k:Int)) (v:=.int .i64 (xr.length:Int)) (z:=.bool false) rfl rfl (ev rfl rfl) (ev rfl rfl) (bin_lss (decide_eq_false (by omega))) ?_)
   refine wnil (thenN (wseq ?_))
   refine wF (ev rfl rfl) ?_
   refine wexit ?_
   refine thenE ?_
   refine thenE ?_
   refine blkE ?_
   refine thenN (wreg (wl rfl (omove (v:=.slice pX i cX) rfl rfl (ev rfl rfl) ?_)))
   refine wl rfl (omove (v:=.slice (some ⟨g2,0,none⟩) xr.length xr.length) rfl rfl (ev rfl rfl) ?_)
   refine wl rfl (obslice (ps:=#[(0,.slice (some ⟨g2,0,none⟩) xr.length xr.length)]) (z:=.slice none 0 0) [.slice (some ⟨g2,0,none⟩) xr.length xr.length] hS rfl rfl Tryd.runUnderlying23 Tryd.sizeOf29 Tryd.zeroValue29 (parts1 (ev (v:=.slice (some ⟨g2,0,none⟩) xr.length xr.length) rfl rfl)) rfl (by decide) (fill1_1s rfl rfl) ?_)
   clear hS; intro g5 w6 hS
   rw [mixR_full (new:=xr.map (· % p)) (old:=(List.replicate xr.length 0)) (by rw [List.length_map,List.length_replicate]) (by rw [List.length_replicate]; omega)] at hS
   obtain hS:=(show Sep w [.rowm (some ⟨g2,0,none⟩) xr.length xr.length (xr.map (· % p)),.lst 29 1 pX i cX (mmE Q),.blk g5 [.slice (some ⟨g2,0,none⟩) xr.length xr.length] 29] w6 from hS.pick [1,2,0] (by decide) rfl)
   refine wl rfl (oappendL (p:=pX) (m:=i) (c:=cX) (g2:=g5) (c2:=1) (off:=0) [.slice (some ⟨g2,0,none⟩) xr.length xr.length] [.rowm (some ⟨g2,0,none⟩) xr.length xr.length (xr.map (· % p))] hS rfl rfl Tryd.underlying23 infoRow rfl (by decide) (ev (v:=.slice pX i cX) rfl rfl) (ev (v:=.slice (some ⟨g5,0,none⟩) 1 1) rfl rfl) (fun j v hj => by rw [Nat.zero_add]; exact (blk_cell (hS.blkAt 2 rfl) j).trans hj) rfl rfl rfl (by omega) (by omega) ?_)
   clear hS; intro p8 c9 w7 hS
   refine wl rfl (oassign (v:=.slice p8 ((i + 1)) c9) rfl rfl (ev rfl rfl) ?_)
   refine wnil (blkN (thenN (wreg (wl rfl (obin (u:=.int .i64 (i:Int)) (v:=.int .i64 1) (z:=.int .i64 (((i + 1:Nat):Int))) rfl rfl (ev rfl rfl) evc (bin_add (wrap_i64 (by omega) (by omega))) ?_)))))
   refine wl rfl (omove (v:=.int .i64 (((i + 1:Nat):Int))) rfl rfl (ev rfl rfl) ?_)
   refine wnil (thenN ?_)
   rw [mmE_snoc (xs:=xr.map (· % p)) (n:=xr.length) (List.length_map _)] at hS
   exact ⟨(i + 1),⟨_,_,_,_,act_sets (l:=[(1,.int .u32 (p:Int)),(4,.slice none 0 0),(5,.slice p8 ((i + 1)) c9),(11,.slice pm nm cm),(12,.int .i64 (nm:Int)),(13,.int .i64 (((i + 1:Nat):Int)))]) ⟨rfl,rfl,rfl,rfl,rfl,rfl,trivial⟩,hS.pick [0] (by decide) rfl,by omega,by rw [nums_app,hQ,modM_take hxr]⟩,by omega⟩
 ·
  refine wl rfl (obin (u:=.int .i64 (i:Int)) (v:=.int .i64 (nm:Int)) (z:=.bool false) rfl rfl (ev rfl rfl) (ev rfl rfl) (bin_lss (decide_eq_false (by omega))) ?_)
  refine wnil (thenN (wseq ?_))
  refine wF (ev rfl rfl) ?_
  refine wexit ?_
  refine thenE ?_
  refine thenE ?_
  refine blkE ?_
  refine thenN (wseq (wreg (wl rfl (omove (v:=.slice pX i cX) rfl rfl (ev rfl rfl) ?_))))
  refine wl rfl (oassign (v:=.slice pX i cX) rfl rfl (ev rfl rfl) ?_)
  refine wnil (thenN ?_)
  refine wleave ?_
  have hin:i = nm:=by omega
  refine wret1 Tryd.results17 (tellT (v:=.slice pX i cX) rfl rfl) ?_
  exact ⟨_,_,rfl,⟨pX,cX,Q,by rw [hQ,hin,List.take_of_length_le (by omega)],by rw [hin],by rw [hin]⟩,hS.newR 0 rfl rfl⟩
theorem wdmul {pa pb:Option Addr} {na ca n cb p:Nat} {A B:List (List Nat)} {w:World} (hA:MS w pa na A) (hB:MS w pb n B) (hp0:0 < p) (hp2:p < 4294967296) (hb1:na ≤ 2097152) (hb2:n ≤ 1048576) (hAr:∀ r ∈ A,n ≤ r.length) (hBr:∀ r ∈ B,n ≤ r.length) :
  Calls Tryd.prog 18 #[.slice pa na ca,.slice pb n cb,.int .u32 ((p:Nat):Int)] w (Ret (MMh na (mulH p A B n)) w):=by
 have hal:=hA.1
 have hbl:=hB.1
 have hS:=Sep.init w
 refine went Tryd.func18 rfl (n:=70) rfl rfl ?_
 refine wseq (wreg (wl rfl (oassign (v:=.slice none 0 0) rfl rfl evc ?_)))
 refine wnil (thenN (wseq (wreg (wl rfl (oassign (v:=.slice none 0 0) rfl rfl evc ?_)))))
 refine wnil (thenN (wseq (wseq (wreg (wl rfl (omove (v:=.slice pa na ca) rfl rfl (ev rfl rfl) ?_))))))
 refine wl rfl (olen rfl rfl rfl Tryd.runUnderlying23 (p:=pa) (k:=na) (m:=ca) (ev rfl rfl) ?_)
 refine wl rfl (omove (v:=.int .i64 0) rfl rfl evc ?_)
 refine wnil (thenN (wblock ?_))
 replace hS:=hS.nilLst 29 1
 refine wloop (σ := Nat) (fun i a9 w' => ∃ (fb:Nat → Value) (Q:List Rw) (pX:Option Addr) (cX:Nat),a9 = act 70 (sets fb [(0,.slice pa na ca),(1,.slice pb n cb),(2,.int .u32 (p:Int)),(6,.slice none 0 0),(7,.slice pX i cX),(14,.int .i64 (na:Int)),(15,.int .i64 (i:Int))]) ∧ Sep w [.lst 29 1 pX i cX (mmE Q)] w' ∧ (i ≤ na) ∧ (nums Q = mkM i n (fun i k => dotH p (fun j => (nd (A.getD i []) j % p) * (nd (B.getD j []) k % p)) n))) (fun i => na - i) (0) ⟨_,[],none,0,act_sets (l:=[(0,.slice pa na ca),(1,.slice pb n cb),(2,.int .u32 (p:Int)),(6,.slice none 0 0),(7,.slice none 0 0),(14,.int .i64 (na:Int)),(15,.int .i64 0)]) ⟨rfl,rfl,rfl,rfl,rfl,rfl,rfl,trivial⟩,hS,Nat.zero_le _,rfl⟩ ?_
 clear hS; rintro i _ w1 ⟨fb,Q,pX,cX,rfl,hS,hi,hQ⟩
 refine wseq (wreg ?_)
 by_cases hli:i < na
 ·
  refine wl rfl (obin (u:=.int .i64 (i:Int)) (v:=.int .i64 (na:Int)) (z:=.bool true) rfl rfl (ev rfl rfl) (ev rfl rfl) (bin_lss (decide_eq_true (by omega))) ?_)
  refine wnil (thenN (wseq ?_))
  refine wT (ev rfl rfl) ?_
  refine wskip (thenN (wseq (wblock (wseq (wreg (wl rfl (omove (v:=.int .i64 (i:Int)) rfl rfl (ev rfl rfl) ?_)))))))
  refine wl rfl (oassign (v:=.int .i64 (i:Int)) rfl rfl (ev rfl rfl) ?_)
  refine wnil (thenN (wseq (wreg (wl rfl (omove (v:=.slice pb n cb) rfl rfl (ev rfl rfl) ?_)))))
  refine wl rfl (olen rfl rfl rfl Tryd.runUnderlying23 (p:=pb) (k:=n) (m:=cb) (ev rfl rfl) ?_)
  refine wl rfl (omakeL (zs:=[.int .u32 0]) (k:=n) (m:=n) hS rfl rfl Tryd.underlying29 infouint32 rfl rfl (by decide) rfl (ev (v:=.int .i64 (n:Int)) rfl rfl) (ev (v:=.int .i64 (n:Int)) rfl rfl) (by omega) (by omega) (by omega) ?_)
  clear hS; intro g2 w3 hS
  refine wl rfl (oassign (v:=.slice (some ⟨g2,0,none⟩) n n) rfl rfl (ev rfl rfl) ?_)
  refine wnil (thenN (wseq (wseq (wreg (wl rfl (omove (v:=.slice (some ⟨g2,0,none⟩) n n) rfl rfl (ev rfl rfl) ?_))))))
  refine wl rfl (olen rfl rfl rfl Tryd.runUnderlying29 (p:=(some ⟨g2,0,none⟩)) (k:=n) (m:=n) (ev rfl rfl) ?_)
  refine wl rfl (omove (v:=.int .i64 0) rfl rfl evc ?_)
  refine wnil (thenN (wblock ?_))
  obtain hS:=(show Sep w [.lst 24 1 (some ⟨g2,0,none⟩) n n (u32E (List.replicate n 0)),.lst 29 1 pX i cX (mmE Q)] w3 from by rw [u32E_rep]; exact hS).lstRow (lims_zeros _)
  rw [← mixR_zero (rowF n ((fun i k => dotH p (fun j => (nd (A.getD i []) j % p) * (nd (B.getD j []) k % p)) n) i)) (List.replicate n 0)] at hS
  refine wloop (σ := Nat) (fun k a9 w' => ∃ (fb:Nat → Value),a9 = act 70 (sets fb [(0,.slice pa na ca),(1,.slice pb n cb),(2,.int .u32 (p:Int)),(6,.slice none 0 0),(7,.slice pX i cX),(8,.int .i64 (i:Int)),(9,.slice (some ⟨g2,0,none⟩) n n),(14,.int .i64 (na:Int)),(15,.int .i64 (i:Int)),(22,.int .i64 (n:Int)),(23,.int .i64 (k:Int))]) ∧ Sep w [.rowm (some ⟨g2,0,none⟩) n n (mixR (rowF n ((fun i k => dotH p (fun j => (nd (A.getD i []) j % p) * (nd (B.getD j []) k % p)) n) i)) (List.replicate n 0) k),.lst 29 1 pX i cX (mmE Q)] w' ∧ (k ≤ n)) (fun k => n - k) (0) ⟨_,act_sets (l:=[(0,.slice pa na ca),(1,.slice pb n cb),(2,.int .u32 (p:Int)),(6,.slice none 0 0),(7,.slice pX i cX),(8,.int .i64 (i:Int)),(9,.slice (some ⟨g2,0,none⟩) n n),(14,.int .i64 (na:Int)),(15,.int .i64 (i:Int)),(22,.int .i64 (n:Int)),(23,.int .i64 0)]) ⟨rfl,rfl,rfl,rfl,rfl,rfl,rfl,rfl,rfl,rfl,rfl,trivial⟩,hS,Nat.zero_le _⟩ ?_
  clear hS; rintro k _ w4 ⟨fb,rfl,hS,hk⟩
  refine wseq (wreg ?_)
  by_cases hlk:k < n
  ·
   refine wl rfl (obin (u:=.int .i64 (k:Int)) (v:=.int .i64 (n:Int)) (z:=.bool true) rfl rfl (ev rfl rfl) (ev rfl rfl) (bin_lss (decide_eq_true (by omega))) ?_)
   refine wnil (thenN (wseq ?_))
   refine wT (ev rfl rfl) ?_
   refine wskip (thenN (wseq (wblock (wseq (wreg (wl rfl (omove (v:=.int .i64 (k:Int)) rfl rfl (ev rfl rfl) ?_)))))))
   refine wl rfl (oassign (v:=.int .i64 (k:Int)) rfl rfl (ev rfl rfl) ?_)
   refine wnil (thenN (wseq (wreg (wl rfl (oassign (v:=.int .u64 0) rfl rfl evc ?_)))))
   refine wnil (thenN (wseq (wseq (wreg (wl rfl (omove (v:=.slice pb n cb) rfl rfl (ev rfl rfl) ?_))))))
   refine wl rfl (olen rfl rfl rfl Tryd.runUnderlying23 (p:=pb) (k:=n) (m:=cb) (ev rfl rfl) ?_)
   refine wl rfl (omove (v:=.int .i64 0) rfl rfl evc ?_)
   refine wnil (thenN (wblock ?_))
   refine wloop (σ := Nat) (fun j a9 w' => ∃ (fb:Nat → Value) (sv:Nat),a9 = act 70 (sets fb [(0,.slice pa na ca),(1,.slice pb n cb),(2,.int .u32 (p:Int)),(6,.slice none 0 0),(7,.slice pX i cX),(8,.int .i64 (i:Int)),(9,.slice (some ⟨g2,0,none⟩) n n),(10,.int .i64 (k:Int)),(11,.int .u64 (sv:Int)),(14,.int .i64 (na:Int)),(15,.int .i64 (i:Int)),(22,.int .i64 (n:Int)),(23,.int .i64 (k:Int)),(27,.int .i64 (n:Int)),(28,.int .i64 (j:Int))]) ∧ Sep w [.rowm (some ⟨g2,0,none⟩) n n (mixR (rowF n ((fun i k => dotH p (fun j => (nd (A.getD i []) j % p) * (nd (B.getD j []) k % p)) n) i)) (List.replicate n 0) k),.lst 29 1 pX i cX (mmE Q)] w' ∧ (j ≤ n) ∧ (sv = dotH p (fun j => (nd (A.getD i []) j % p) * (nd (B.getD j []) k % p)) j)) (fun j => n - j) (0) ⟨_,0,act_sets (l:=[(0,.slice pa na ca),(1,.slice pb n cb),(2,.int .u32 (p:Int)),(6,.slice none 0 0),(7,.slice pX i cX),(8,.int .i64 (i:Int)),(9,.slice (some ⟨g2,0,none⟩) n n),(10,.int .i64 (k:Int)),(11,.int .u64 0),(14,.int .i64 (na:Int)),(15,.int .i64 (i:Int)),(22,.int .i64 (n:Int)),(23,.int .i64 (k:Int)),(27,.int .i64 (n:Int)),(28,.int .i64 0)]) ⟨rfl,rfl,rfl,rfl,rfl,rfl,rfl,rfl,rfl,rfl,rfl,rfl,rfl,rfl,rfl,trivial⟩,hS,Nat.zero_le _,rfl⟩ ?_
   clear hS; rintro j _ w5 ⟨fb,sv,rfl,hS,hj,hsv⟩
   refine wseq (wreg ?_)
   by_cases hlj:j < n
   ·
    have hsl:sv < p:=by rw [hsv]; exact dotH_lt hp0 _
    obtain ⟨xr,hxr⟩:∃ r,(A)[i]? = some r:=⟨_,List.getElem?_eq_getElem (by have:=hA.1; omega)⟩
    obtain ⟨br,ofr,pr,cr,hpr,hcr,hsr⟩:=hA.2.2 i _ hxr
    obtain ⟨xt,hxt⟩:∃ r,(B)[j]? = some r:=⟨_,List.getElem?_eq_getElem (by have:=hB.1; omega)⟩
    obtain ⟨bt,oft,pt,ct,hpt,hct,hst⟩:=hB.2.2 j _ hxt
    have hrn:=hAr xr (List.mem_of_getElem? hxr)
    have htn:=hBr xt (List.mem_of_getElem? hxt)
    have hmr:=Nat.mod_lt (nd xr j) hp0
    have hmt:=Nat.mod_lt (nd xt k) hp0
    have hmm:nd xr j % p * (nd xt k % p) ≤ 4294967295 * 4294967295:=Nat.mul_le_mul (by omega) (by omega)
    have hmo:=Nat.mod_lt (sv + nd xr j % p * (nd xt k % p)) hp0
    have hl9:=hsr.lim1 j
    have hl8:=hst.lim1 k
    obtain ⟨bce,oce,hpce,hcce⟩:=hsr.el (show j < xr.length by omega)
    obtain ⟨bcf,ocf,hpcf,hccf⟩:=hst.el (show k < xt.length by omega)
    refine wl rfl (obin (u:=.int .i64 (j:Int)) (v:=.int .i64 (n:Int)) (z:=.bool true) rfl rfl (ev rfl rfl) (ev rfl rfl) (bin_lss (decide_eq_true (by omega))) ?_)
    refine wnil (thenN (wseq ?_))
    refine wT (ev rfl rfl) ?_
    refine wskip (thenN (wseq (wblock (wseq (wreg (wl rfl (omove (v:=.int .i64 (j:Int)) rfl rfl (ev rfl rfl) ?_)))))))
    refine wl rfl (oassign (v:=.int .i64 (j:Int)) rfl rfl (ev rfl rfl) ?_)
    refine wnil (thenN ?_)
    refine wstage 26 [31,32,33,34,35,36,37,38,39,40,41,42,43,44,45,46,47,48,49,50,51,52,53,54,55,56] [[],[],[],[1,2],[3,1,2],[],[4,5,1,2,3],[6,1,2,3,4,5],[],[7,8,1,2,3,4,5,6],[9,1,2,3,4,5,6,7,8],[],[],[11,12],[13,11,12],[],[14,15,11,12,13],[16,11,12,13,14,15],[],[17,18,11,12,13,14,15,16],[19,11,12,13,14,15,16,17,18],[10,20,1,2,3,4,5,6,7,8,9,11,12,13,14,15,16,17,18,19],[0,21,1,2,3,4,5,6,7,8,9,10,11,12,13,14,15,16,17,18,19,20],[],[23],[22,24,0,1,2,3,4,5,6,7,8,9,10,11,12,13,14,15,16,17,18,19,20,21,23]] [[],[],[],[],[],[],[],[],[],[],[],[],[],[],[],[],[],[],[],[],[],[],[],[],[],[]] [] [] (fun i9 => ([fun _ => Is (.int .u64 (sv:Int)),fun _ => Is (.slice pa na ca),fun _ => Is (.int .i64 (i:Int)),fun _ => Is (.pointer (some ⟨br,(ofr + i * 1),none⟩)),fun _ => Is (.slice pr xr.length cr),fun _ => Is (.int .i64 (j:Int)),fun _ => Is (.pointer (some ⟨bce,(oce + j * 1),none⟩)),fun _ => Is (.int .u32 (((nd xr j:Nat):Int))),fun _ => Is (.int .u32 (p:Int)),fun _ => Is (.int .u32 (((nd xr j % p:Nat):Int))),fun _ => Is (.int .u64 (((nd xr j % p:Nat):Int))),fun _ => Is (.slice pb n cb),fun _ => Is (.int .i64 (j:Int)),fun _ => Is (.pointer (some ⟨bt,(oft + j * 1),none⟩)),fun _ => Is (.slice pt xt.length ct),fun _ => Is (.int .i64 (k:Int)),fun _ => Is (.pointer (some ⟨bcf,(ocf + k * 1),none⟩)),fun _ => Is (.int .u32 (((nd xt k:Nat):Int))),fun _ => Is (.int .u32 (p:Int)),fun _ => Is (.int .u32 (((nd xt k % p:Nat):Int))),fun _ => Is (.int .u64 (((nd xt k % p:Nat):Int))),fun _ => Is (.int .u64 (((nd xr j % p * (nd xt k % p):Nat):Int))),fun _ => Is (.int .u64 (((sv + nd xr j % p * (nd xt k % p):Nat):Int))),fun _ => Is (.int .u32 (p:Int)),fun _ => Is (.int .u64 (p:Int)),fun _ => Is (.int .u64 ((((sv + nd xr j % p * (nd xt k % p)) % p:Nat):Int)))]:List (List Value → Tell)).getD i9 (fun _ _ _ => False)) (heldNil) (fun d _ _ _ _ h => (by cases d <;> exact h)) (by kernel_rfl) (by kernel_rfl) (by kernel_rfl) hS ?_ ?_
    ·
     refine stepsCons rfl (fun Q f' w' ρ S ho hT hS hB => ?_) ?_
     ·exact .inl ⟨want_none rfl,omove (v:=.int .u64 (sv:Int)) rfl rfl (ev rfl (ho 11 rfl)) ⟨_,_,rfl,isI,New.same _⟩⟩
     refine stepsCons rfl (fun Q f' w' ρ S ho hT hS hB => ?_) ?_
     ·exact .inl ⟨want_none rfl,omove (v:=.slice pa na ca) rfl rfl (ev rfl (ho 0 rfl)) ⟨_,_,rfl,isI,New.same _⟩⟩
     refine stepsCons rfl (fun Q f' w' ρ S ho hT hS hB => ?_) ?_
     ·exact .inl ⟨want_none rfl,omove (v:=.int .i64 (i:Int)) rfl rfl (ev rfl (ho 8 rfl)) ⟨_,_,rfl,isI,New.same _⟩⟩
     refine stepsCons rfl (fun Q f' w' ρ S ho hT hS hB => ?_) ?_
     ·obtain ⟨hv1,hr1⟩:=(hT 1 32 rfl rfl:(Is (.slice pa na ca)) _ _)
      obtain ⟨hv2,hr2⟩:=(hT 2 33 rfl rfl:(Is (.int .i64 (((i:Nat):Int)))) _ _)
      obtain hS:=hS.flat2 hr1 hr2
      exact .inl ⟨want_none rfl,oindex (p:=pa) (g:=br) (off:=ofr) (m:=na) (k:=i) (j:=(ofr + i * 1)) rfl rfl Tryd.runUnderlying23 Tryd.sizeOf29 (ev rfl hv1) (hpr) (ev rfl hv2) (by omega) rfl ⟨_,_,rfl,isI,New.same _⟩⟩
     refine stepsCons rfl (fun Q f' w' ρ S ho hT hS hB => ?_) ?_
     ·obtain ⟨hv3,hr3⟩:=(hT 3 34 rfl rfl:(Is (.pointer (some ⟨br,(ofr + i * 1),none⟩))) _ _)
      obtain hS:=hS.flat1 hr3
      exact .inl ⟨want_none rfl,oloadc (v:=.slice pr xr.length cr) (show One Tryd.prog 29 from ⟨Tryd.isAgg29,Tryd.sizeOf29⟩) rfl rfl (ev (v:=.pointer (some ⟨br,(ofr + i * 1),none⟩)) rfl hv3) (hS.cellAt (hcr 0 _ rfl)) ⟨_,_,rfl,isI,New.same _⟩⟩
     refine stepsCons rfl (fun Q f' w' ρ S ho hT hS hB => ?_) ?_
     ·exact .inl ⟨want_none rfl,omove (v:=.int .i64 (j:Int)) rfl rfl (ev rfl (ho 12 rfl)) ⟨_,_,rfl,isI,New.same _⟩⟩
     refine stepsCons rfl (fun Q f' w' ρ S ho hT hS hB => ?_) ?_
     ·obtain ⟨hv4,hr4⟩:=(hT 4 35 rfl rfl:(Is (.slice pr xr.length cr)) _ _)
      obtain ⟨hv5,hr5⟩:=(hT 5 36 rfl rfl:(Is (.int .i64 (((j:Nat):Int)))) _ _)
      obtain hS:=hS.flat2 hr4 hr5
      exact .inl ⟨want_none rfl,oindex (p:=pr) (g:=bce) (off:=oce) (m:=xr.length) (k:=j) (j:=(oce + j * 1)) rfl rfl Tryd.runUnderlying29 Tryd.sizeOf24 (ev rfl hv4) (hpce) (ev rfl hv5) (by omega) rfl ⟨_,_,rfl,isI,New.same _⟩⟩
     refine stepsCons rfl (fun Q f' w' ρ S ho hT hS hB => ?_) ?_
     ·obtain ⟨hv6,hr6⟩:=(hT 6 37 rfl rfl:(Is (.pointer (some ⟨bce,(oce + j * 1),none⟩))) _ _)
      obtain hS:=hS.flat1 hr6
      exact .inl ⟨want_none rfl,oloadc (v:=.int .u32 (((nd xr j:Nat):Int))) one32 rfl rfl (ev (v:=.pointer (some ⟨bce,(oce + j * 1),none⟩)) rfl hv6) (hS.cellAt (hcce 0 _ rfl)) ⟨_,_,rfl,isI,New.same _⟩⟩
     refine stepsCons rfl (fun Q f' w' ρ S ho hT hS hB => ?_) ?_
     ·exact .inl ⟨want_none rfl,omove (v:=.int .u32 (p:Int)) rfl rfl (ev rfl (ho 2 rfl)) ⟨_,_,rfl,isI,New.same _⟩⟩
     refine stepsCons rfl (fun Q f' w' ρ S ho hT hS hB => ?_) ?_
     ·obtain ⟨hv7,hr7⟩:=(hT 7 38 rfl rfl:(Is (.int .u32 (((nd xr j:Nat):Int)))) _ _)
      obtain ⟨hv8,hr8⟩:=(hT 8 39 rfl rfl:(Is (.int .u32 (((p:Nat):Int)))) _ _)
      obtain hS:=hS.flat2 hr7 hr8
      exact .inl ⟨want_none rfl,obin (u:=.int .u32 (((nd xr j:Nat):Int))) (v:=.int .u32 (p:Int)) (z:=.int .u32 (((nd xr j % p:Nat):Int))) rfl rfl (ev rfl hv7) (ev rfl hv8) (bin_rem (by omega) rfl) ⟨_,_,rfl,isI,New.same _⟩⟩
     refine stepsCons rfl (fun Q f' w' ρ S ho hT hS hB => ?_) ?_
     ·obtain ⟨hv9,hr9⟩:=(hT 9 40 rfl rfl:(Is (.int .u32 (((nd xr j % p:Nat):Int)))) _ _)
      obtain hS:=hS.flat1 hr9
      exact .inl ⟨want_none rfl,oconvert (u:=.int .u32 (((nd xr j % p:Nat):Int))) (v:=.int .u64 (((nd xr j % p:Nat):Int))) rfl rfl (ev rfl hv9) (convert_int Tryd.runUnderlying24 Tryd.runUnderlying44 (wrap_u64 (by omega) (by omega))) ⟨_,_,rfl,isI,New.same _⟩⟩
     refine stepsCons rfl (fun Q f' w' ρ S ho hT hS hB => ?_) ?_
     ·exact .inl ⟨want_none rfl,omove (v:=.slice pb n cb) rfl rfl (ev rfl (ho 1 rfl)) ⟨_,_,rfl,isI,New.same _⟩⟩
     refine stepsCons rfl (fun Q f' w' ρ S ho hT hS hB => ?_) ?_
     ·exact .inl ⟨want_none rfl,omove (v:=.int .i64 (j:Int)) rfl rfl (ev rfl (ho 12 rfl)) ⟨_,_,rfl,isI,New.same _⟩⟩
     refine stepsCons rfl (fun Q f' w' ρ S ho hT hS hB => ?_) ?_
     ·obtain ⟨hv11,hr11⟩:=(hT 11 42 rfl rfl:(Is (.slice pb n cb)) _ _)
      obtain ⟨hv12,hr12⟩:=(hT 12 43 rfl rfl:(Is (.int .i64 (((j:Nat):Int)))) _ _)
      obtain hS:=hS.flat2 hr11 hr12
      exact .inl ⟨want_none rfl,oindex (p:=pb) (g:=bt) (off:=oft) (m:=n) (k:=j) (j:=(oft + j * 1)) rfl rfl Tryd.runUnderlying23 Tryd.sizeOf29 (ev rfl hv11) (hpt) (ev rfl hv12) (by omega) rfl ⟨_,_,rfl,isI,New.same _⟩⟩
     refine stepsCons rfl (fun Q f' w' ρ S ho hT hS hB => ?_) ?_
     ·obtain ⟨hv13,hr13⟩:=(hT 13 44 rfl rfl:(Is (.pointer (some ⟨bt,(oft + j * 1),none⟩))) _ _)
      obtain hS:=hS.flat1 hr13
      exact .inl ⟨want_none rfl,oloadc (v:=.slice pt xt.length ct) (show One Tryd.prog 29 from ⟨Tryd.isAgg29,Tryd.sizeOf29⟩) rfl rfl (ev (v:=.pointer (some ⟨bt,(oft + j * 1),none⟩)) rfl hv13) (hS.cellAt (hct 0 _ rfl)) ⟨_,_,rfl,isI,New.same _⟩⟩
     refine stepsCons rfl (fun Q f' w' ρ S ho hT hS hB => ?_) ?_
     ·exact .inl ⟨want_none rfl,omove (v:=.int .i64 (k:Int)) rfl rfl (ev rfl (ho 10 rfl)) ⟨_,_,rfl,isI,New.same _⟩⟩
     refine stepsCons rfl (fun Q f' w' ρ S ho hT hS hB => ?_) ?_
     ·obtain ⟨hv14,hr14⟩:=(hT 14 45 rfl rfl:(Is (.slice pt xt.length ct)) _ _)
      obtain ⟨hv15,hr15⟩:=(hT 15 46 rfl rfl:(Is (.int .i64 (((k:Nat):Int)))) _ _)
      obtain hS:=hS.flat2 hr14 hr15
      exact .inl ⟨want_none rfl,oindex (p:=pt) (g:=bcf) (off:=ocf) (m:=xt.length) (k:=k) (j:=(ocf + k * 1)) rfl rfl Tryd.runUnderlying29 Tryd.sizeOf24 (ev rfl hv14) (hpcf) (ev rfl hv15) (by omega) rfl ⟨_,_,rfl,isI,New.same _⟩⟩
     refine stepsCons rfl (fun Q f' w' ρ S ho hT hS hB => ?_) ?_
     ·obtain ⟨hv16,hr16⟩:=(hT 16 47 rfl rfl:(Is (.pointer (some ⟨bcf,(ocf + k * 1),none⟩))) _ _)
      obtain hS:=hS.flat1 hr16
      exact .inl ⟨want_none rfl,oloadc (v:=.int .u32 (((nd xt k:Nat):Int))) one32 rfl rfl (ev (v:=.pointer (some ⟨bcf,(ocf + k * 1),none⟩)) rfl hv16) (hS.cellAt (hccf 0 _ rfl)) ⟨_,_,rfl,isI,New.same _⟩⟩
     refine stepsCons rfl (fun Q f' w' ρ S ho hT hS hB => ?_) ?_
     ·exact .inl ⟨want_none rfl,omove (v:=.int .u32 (p:Int)) rfl rfl (ev rfl (ho 2 rfl)) ⟨_,_,rfl,isI,New.same _⟩⟩
     refine stepsCons rfl (fun Q f' w' ρ S ho hT hS hB => ?_) ?_
     ·obtain ⟨hv17,hr17⟩:=(hT 17 48 rfl rfl:(Is (.int .u32 (((nd xt k:Nat):Int)))) _ _)
      obtain ⟨hv18,hr18⟩:=(hT 18 49 rfl rfl:(Is (.int .u32 (((p:Nat):Int)))) _ _)
      obtain hS:=hS.flat2 hr17 hr18
      exact .inl ⟨want_none rfl,obin (u:=.int .u32 (((nd xt k:Nat):Int))) (v:=.int .u32 (p:Int)) (z:=.int .u32 (((nd xt k % p:Nat):Int))) rfl rfl (ev rfl hv17) (ev rfl hv18) (bin_rem (by omega) rfl) ⟨_,_,rfl,isI,New.same _⟩⟩
     refine stepsCons rfl (fun Q f' w' ρ S ho hT hS hB => ?_) ?_
     ·obtain ⟨hv19,hr19⟩:=(hT 19 50 rfl rfl:(Is (.int .u32 (((nd xt k % p:Nat):Int)))) _ _)
      obtain hS:=hS.flat1 hr19
      exact .inl ⟨want_none rfl,oconvert (u:=.int .u32 (((nd xt k % p:Nat):Int))) (v:=.int .u64 (((nd xt k % p:Nat):Int))) rfl rfl (ev rfl hv19) (convert_int Tryd.runUnderlying24 Tryd.runUnderlying44 (wrap_u64 (by omega) (by omega))) ⟨_,_,rfl,isI,New.same _⟩⟩
     refine stepsCons rfl (fun Q f' w' ρ S ho hT hS hB => ?_) ?_
     ·obtain ⟨hv10,hr10⟩:=(hT 10 41 rfl rfl:(Is (.int .u64 (((nd xr j % p:Nat):Int)))) _ _)
      obtain ⟨hv20,hr20⟩:=(hT 20 51 rfl rfl:(Is (.int .u64 (((nd xt k % p:Nat):Int)))) _ _)
      obtain hS:=hS.flat2 hr10 hr20
      exact .inl ⟨want_none rfl,obin (u:=.int .u64 (((nd xr j % p:Nat):Int))) (v:=.int .u64 (((nd xt k % p:Nat):Int))) (z:=.int .u64 (((nd xr j % p * (nd xt k % p):Nat):Int))) rfl rfl (ev rfl hv10) (ev rfl hv20) (bin_mul (mul_u64 (by omega) (by omega))) ⟨_,_,rfl,isI,New.same _⟩⟩
     refine stepsCons rfl (fun Q f' w' ρ S ho hT hS hB => ?_) ?_
     ·obtain ⟨hv0,hr0⟩:=(hT 0 31 rfl rfl:(Is (.int .u64 (((sv:Nat):Int)))) _ _)
      obtain ⟨hv21,hr21⟩:=(hT 21 52 rfl rfl:(Is (.int .u64 (((nd xr j % p * (nd xt k % p):Nat):Int)))) _ _)
      obtain hS:=hS.flat2 hr0 hr21
      exact .inl ⟨want_none rfl,obin (u:=.int .u64 (sv:Int)) (v:=.int .u64 (((nd xr j % p * (nd xt k % p):Nat):Int))) (z:=.int .u64 (((sv + nd xr j % p * (nd xt k % p):Nat):Int))) rfl rfl (ev rfl hv0) (ev rfl hv21) (bin_add (wrap_u64 (by omega) (by omega))) ⟨_,_,rfl,isI,New.same _⟩⟩
     refine stepsCons rfl (fun Q f' w' ρ S ho hT hS hB => ?_) ?_
     ·exact .inl ⟨want_none rfl,omove (v:=.int .u32 (p:Int)) rfl rfl (ev rfl (ho 2 rfl)) ⟨_,_,rfl,isI,New.same _⟩⟩
     refine stepsCons rfl (fun Q f' w' ρ S ho hT hS hB => ?_) ?_
     ·obtain ⟨hv23,hr23⟩:=(hT 23 54 rfl rfl:(Is (.int .u32 (((p:Nat):Int)))) _ _)
      obtain hS:=hS.flat1 hr23
      exact .inl ⟨want_none rfl,oconvert (u:=.int .u32 (p:Int)) (v:=.int .u64 (p:Int)) rfl rfl (ev rfl hv23) (convert_int Tryd.runUnderlying24 Tryd.runUnderlying44 (wrap_u64 (by omega) (by omega))) ⟨_,_,rfl,isI,New.same _⟩⟩
     refine stepsCons rfl (fun Q f' w' ρ S ho hT hS hB => ?_) ?_
     ·obtain ⟨hv22,hr22⟩:=(hT 22 53 rfl rfl:(Is (.int .u64 (((sv + nd xr j % p * (nd xt k % p):Nat):Int)))) _ _)
      obtain ⟨hv24,hr24⟩:=(hT 24 55 rfl rfl:(Is (.int .u64 (((p:Nat):Int)))) _ _)
      obtain hS:=hS.flat2 hr22 hr24
      exact .inl ⟨want_none rfl,obin (u:=.int .u64 (((sv + nd xr j % p * (nd xt k % p):Nat):Int))) (v:=.int .u64 (p:Int)) (z:=.int .u64 ((((sv + nd xr j % p * (nd xt k % p)) % p:Nat):Int))) rfl rfl (ev rfl hv22) (ev rfl hv24) (bin_rem (by omega) rfl) ⟨_,_,rfl,isI,New.same _⟩⟩
     exact stepsNil
    ·
     intro vs ρ w6 f' hf hT hS
     obtain ⟨hv0,hr0⟩:=(hT 0 (by decide):(Is (.int .u64 (((sv:Nat):Int)))) _ _)
     obtain ⟨hv1,hr1⟩:=(hT 1 (by decide):(Is (.slice pa na ca)) _ _)
     obtain ⟨hv2,hr2⟩:=(hT 2 (by decide):(Is (.int .i64 (((i:Nat):Int)))) _ _)
     obtain ⟨hv3,hr3⟩:=(hT 3 (by decide):(Is (.pointer (some ⟨br,(ofr + i * 1),none⟩))) _ _)
     obtain ⟨hv4,hr4⟩:=(hT 4 (by decide):(Is (.slice pr xr.length cr)) _ _)
     obtain ⟨hv5,hr5⟩:=(hT 5 (by decide):(Is (.int .i64 (((j:Nat):Int)))) _ _)
     obtain ⟨hv6,hr6⟩:=(hT 6 (by decide):(Is (.pointer (some ⟨bce,(oce + j * 1),none⟩))) _ _)
     obtain ⟨hv7,hr7⟩:=(hT 7 (by decide):(Is (.int .u32 (((nd xr j:Nat):Int)))) _ _)
     obtain ⟨hv8,hr8⟩:=(hT 8 (by decide):(Is (.int .u32 (((p:Nat):Int)))) _ _)
     obtain ⟨hv9,hr9⟩:=(hT 9 (by decide):(Is (.int .u32 (((nd xr j % p:Nat):Int)))) _ _)
     obtain ⟨hv10,hr10⟩:=(hT 10 (by decide):(Is (.int .u64 (((nd xr j % p:Nat):Int)))) _ _)
     obtain ⟨hv11,hr11⟩:=(hT 11 (by decide):(Is (.slice pb n cb)) _ _)
     obtain ⟨hv12,hr12⟩:=(hT 12 (by decide):(Is (.int .i64 (((j:Nat):Int)))) _ _)
     obtain ⟨hv13,hr13⟩:=(hT 13 (by decide):(Is (.pointer (some ⟨bt,(oft + j * 1),none⟩))) _ _)
     obtain ⟨hv14,hr14⟩:=(hT 14 (by decide):(Is (.slice pt xt.length ct)) _ _)
     obtain ⟨hv15,hr15⟩:=(hT 15 (by decide):(Is (.int .i64 (((k:Nat):Int)))) _ _)
     obtain ⟨hv16,hr16⟩:=(hT 16 (by decide):(Is (.pointer (some ⟨bcf,(ocf + k * 1),none⟩))) _ _)
     obtain ⟨hv17,hr17⟩:=(hT 17 (by decide):(Is (.int .u32 (((nd xt k:Nat):Int)))) _ _)
     obtain ⟨hv18,hr18⟩:=(hT 18 (by decide):(Is (.int .u32 (((p:Nat):Int)))) _ _)
     obtain ⟨hv19,hr19⟩:=(hT 19 (by decide):(Is (.int .u32 (((nd xt k % p:Nat):Int)))) _ _)
     obtain ⟨hv20,hr20⟩:=(hT 20 (by decide):(Is (.int .u64 (((nd xt k % p:Nat):Int)))) _ _)
     obtain ⟨hv21,hr21⟩:=(hT 21 (by decide):(Is (.int .u64 (((nd xr j % p * (nd xt k % p):Nat):Int)))) _ _)
     obtain ⟨hv22,hr22⟩:=(hT 22 (by decide):(Is (.int .u64 (((sv + nd xr j % p * (nd xt k % p):Nat):Int)))) _ _)
     obtain ⟨hv23,hr23⟩:=(hT 23 (by decide):(Is (.int .u32 (((p:Nat):Int)))) _ _)
     obtain ⟨hv24,hr24⟩:=(hT 24 (by decide):(Is (.int .u64 (((p:Nat):Int)))) _ _)
     obtain ⟨hv25,hr25⟩:=(hT 25 (by decide):(Is (.int .u64 ((((sv + nd xr j % p * (nd xt k % p)) % p:Nat):Int)))) _ _)
     simp only [pool,if_true,hr0,hr1,hr2,hr3,hr4,hr5,hr6,hr7,hr8,hr9,hr10,hr11,hr12,hr13,hr14,hr15,hr16,hr17,hr18,hr19,hr20,hr21,hr22,hr23,hr24,hr25,List.nil_append,List.cons_append,List.append_nil] at hS
     simp only [layf,hv0,hv1,hv2,hv3,hv4,hv5,hv6,hv7,hv8,hv9,hv10,hv11,hv12,hv13,hv14,hv15,hv16,hv17,hv18,hv19,hv20,hv21,hv22,hv23,hv24,hv25] at hf
     subst hf; clear hT hv0 hv1 hv2 hv3 hv4 hv5 hv6 hv7 hv8 hv9 hv10 hv11 hv12 hv13 hv14 hv15 hv16 hv17 hv18 hv19 hv20 hv21 hv22 hv23 hv24 hv25 hr0 hr1 hr2 hr3 hr4 hr5 hr6 hr7 hr8 hr9 hr10 hr11 hr12 hr13 hr14 hr15 hr16 hr17 hr18 hr19 hr20 hr21 hr22 hr23 hr24 hr25
     refine wlate 26 rfl (by kernel_rfl) (oassign (v:=.int .u64 ((((sv + nd xr j % p * (nd xt k % p)) % p:Nat):Int))) rfl rfl (ev rfl rfl) ?_)
     refine ⟨heldNil,?_⟩
     refine wdone rfl ?_
     refine blkN (thenN (wreg (wl rfl (obin (u:=.int .i64 (j:Int)) (v:=.int .i64 1) (z:=.int .i64 (((j + 1:Nat):Int))) rfl rfl (ev rfl rfl) evc (bin_add (wrap_i64 (by omega) (by omega))) ?_))))
     refine wl rfl (omove (v:=.int .i64 (((j + 1:Nat):Int))) rfl rfl (ev rfl rfl) ?_)
     refine wnil (thenN ?_)
     exact ⟨(j + 1),⟨_,_,act_sets (l:=[(0,.slice pa na ca),(1,.slice pb n cb),(2,.int .u32 (p:Int)),(6,.slice none 0 0),(7,.slice pX i cX),(8,.int .i64 (i:Int)),(9,.slice (some ⟨g2,0,none⟩) n n),(10,.int .i64 (k:Int)),(11,.int .u64 ((((sv + nd xr j % p * (nd xt k % p)) % p:Nat):Int))),(14,.int .i64 (na:Int)),(15,.int .i64 (i:Int)),(22,.int .i64 (n:Int)),(23,.int .i64 (k:Int)),(27,.int .i64 (n:Int)),(28,.int .i64 (((j + 1:Nat):Int)))]) ⟨rfl,rfl,rfl,rfl,rfl,rfl,rfl,rfl,rfl,rfl,rfl,rfl,rfl,rfl,rfl,trivial⟩,hS.pick [0,1] (by decide) rfl,by omega,by rw [dotH, ← hsv,getD_get hxr,getD_get hxt]⟩,by omega⟩
   ·
    refine wl rfl (obin (u:=.int .i64 (j:Int)) (v:=.int .i64 (n:Int)) (z:=.bool false) rfl rfl (ev rfl rfl) (ev rfl rfl) (bin_lss (decide_eq_false (by omega))) ?_)
    refine wnil (thenN (wseq ?_))
    refine wF (ev rfl rfl) ?_
    refine wexit ?_
    refine thenE ?_
    refine thenE ?_
    refine blkE ?_
    refine thenN (wreg (wl rfl (omove (v:=.slice (some ⟨g2,0,none⟩) n n) rfl rfl (ev rfl rfl) ?_)))
    refine wl rfl (omove (v:=.int .i64 (k:Int)) rfl rfl (ev rfl rfl) ?_)
    refine wl rfl (omove (v:=.int .u64 (sv:Int)) rfl rfl (ev rfl rfl) ?_)
    have hjn:j = n:=by omega
    have hsl:sv < p:=by rw [hsv]; exact dotH_lt hp0 _
    refine wl rfl (oconvert (u:=.int .u64 (sv:Int)) (v:=.int .u32 (sv:Int)) rfl rfl (ev rfl rfl) (convert_int Tryd.runUnderlying44 Tryd.runUnderlying24 (wrap_u32 (by omega) (by omega))) ?_)
    refine wl rfl (oindex (p:=(some ⟨g2,0,none⟩)) (g:=g2) (off:=0) (m:=n) (k:=k) (j:=k) rfl rfl Tryd.runUnderlying29 Tryd.sizeOf24 (ev rfl rfl) (rfl) (ev rfl rfl) (by omega) (by simp) ?_)
    refine wl rfl (ostoreRow (i:=k) (u:=sv) Tryd.sizeOf24 hS 0 rfl rfl (ev (v:=.pointer (some ⟨g2,k,none⟩)) rfl rfl) ((ev (v:=.int .u32 (sv:Int)) rfl rfl)) rfl (rfl) ((by omega)) (by omega) ?_)
    clear hS; intro w6 hS
    refine wnil (blkN (thenN (wreg (wl rfl (obin (u:=.int .i64 (k:Int)) (v:=.int .i64 1) (z:=.int .i64 (((k + 1:Nat):Int))) rfl rfl (ev rfl rfl) evc (bin_add (wrap_i64 (by omega) (by omega))) ?_)))))
    refine wl rfl (omove (v:=.int .i64 (((k + 1:Nat):Int))) rfl rfl (ev rfl rfl) ?_)
    refine wnil (thenN ?_)
    rw [mixR_set (new:=rowF n ((fun i k => dotH p (fun j => (nd (A.getD i []) j % p) * (nd (B.getD j []) k % p)) n) i)) (old:=(List.replicate n 0)) (by rw [rowF_len,List.length_replicate]) (by rw [List.length_replicate]; omega) (by rw [rowF_nd (by omega),hsv,hjn])] at hS
    exact ⟨(k + 1),⟨_,act_sets (l:=[(0,.slice pa na ca),(1,.slice pb n cb),(2,.int .u32 (p:Int)),(6,.slice none 0 0),(7,.slice pX i cX),(8,.int .i64 (i:Int)),(9,.slice (some ⟨g2,0,none⟩) n n),(14,.int .i64 (na:Int)),(15,.int .i64 (i:Int)),(22,.int .i64 (n:Int)),(23,.int .i64 (((k + 1:Nat):Int)))]) ⟨rfl,rfl,rfl,rfl,rfl,rfl,rfl,rfl,rfl,rfl,rfl,trivial⟩,hS.pick [0,1] (by decide) rfl,by omega⟩,by omega⟩
  ·
   refine wl rfl (obin (u:=.int .i64 (k:Int)) (v:=.int .i64 (n:Int)) (z:=.bool false) rfl rfl (ev rfl rfl) (ev rfl rfl) (bin_lss (decide_eq_false (by omega))) ?_)
   refine wnil (thenN (wseq ?_))
   refine wF (ev rfl rfl) ?_
   refine wexit ?_
   refine thenE ?_
   refine thenE ?_
   refine blkE ?_
   refine thenN (wreg (wl rfl (omove (v:=.slice pX i cX) rfl rfl (ev rfl rfl) ?_)))
   refine wl rfl (omove (v:=.slice (some ⟨g2,0,none⟩) n n) rfl rfl (ev rfl rfl) ?_)
   refine wl rfl (obslice (ps:=#[(0,.slice (some ⟨g2,0,none⟩) n n)]) (z:=.slice none 0 0) [.slice (some ⟨g2,0,none⟩) n n] hS rfl rfl Tryd.runUnderlying23 Tryd.sizeOf29 Tryd.zeroValue29 (parts1 (ev (v:=.slice (some ⟨g2,0,none⟩) n n) rfl rfl)) rfl (by decide) (fill1_1s rfl rfl) ?_)
   clear hS; intro g5 w6 hS
   rw [mixR_full (new:=rowF n ((fun i k => dotH p (fun j => (nd (A.getD i []) j % p) * (nd (B.getD j []) k % p)) n) i)) (old:=(List.replicate n 0)) (by rw [rowF_len,List.length_replicate]) (by rw [List.length_replicate]; omega)] at hS
   obtain hS:=(show Sep w [.rowm (some ⟨g2,0,none⟩) n n (rowF n ((fun i k => dotH p (fun j => (nd (A.getD i []) j % p) * (nd (B.getD j []) k % p)) n) i)),.lst 29 1 pX i cX (mmE Q),.blk g5 [.slice (some ⟨g2,0,none⟩) n n] 29] w6 from hS.pick [1,2,0] (by decide) rfl)
   refine wl rfl (oappendL (p:=pX) (m:=i) (c:=cX) (g2:=g5) (c2:=1) (off:=0) [.slice (some ⟨g2,0,none⟩) n n] [.rowm (some ⟨g2,0,none⟩) n n (rowF n ((fun i k => dotH p (fun j => (nd (A.getD i []) j % p) * (nd (B.getD j []) k % p)) n) i))] hS rfl rfl Tryd.underlying23 infoRow rfl (by decide) (ev (v:=.slice pX i cX) rfl rfl) (ev (v:=.slice (some ⟨g5,0,none⟩) 1 1) rfl rfl) (fun j v hj => by rw [Nat.zero_add]; exact (blk_cell (hS.blkAt 2 rfl) j).trans hj) rfl rfl rfl (by omega) (by omega) ?_)
   clear hS; intro p8 c9 w7 hS
   refine wl rfl (oassign (v:=.slice p8 ((i + 1)) c9) rfl rfl (ev rfl rfl) ?_)
   refine wnil (blkN (thenN (wreg (wl rfl (obin (u:=.int .i64 (i:Int)) (v:=.int .i64 1) (z:=.int .i64 (((i + 1:Nat):Int))) rfl rfl (ev rfl rfl) evc (bin_add (wrap_i64 (by omega) (by omega))) ?_)))))
   refine wl rfl (omove (v:=.int .i64 (((i + 1:Nat):Int))) rfl rfl (ev rfl rfl) ?_)
   refine wnil (thenN ?_)
   rw [mmE_snoc (xs:=rowF n ((fun i k => dotH p (fun j => (nd (A.getD i []) j % p) * (nd (B.getD j []) k % p)) n) i)) (n:=n) (rowF_len _ _)] at hS
   exact ⟨(i + 1),⟨_,_,_,_,act_sets (l:=[(0,.slice pa na ca),(1,.slice pb n cb),(2,.int .u32 (p:Int)),(6,.slice none 0 0),(7,.slice p8 ((i + 1)) c9),(14,.int .i64 (na:Int)),(15,.int .i64 (((i + 1:Nat):Int)))]) ⟨rfl,rfl,rfl,rfl,rfl,rfl,rfl,trivial⟩,hS.pick [0] (by decide) rfl,by omega,mkM_snoc hQ rfl⟩,by omega⟩
 ·
  refine wl rfl (obin (u:=.int .i64 (i:Int)) (v:=.int .i64 (na:Int)) (z:=.bool false) rfl rfl (ev rfl rfl) (ev rfl rfl) (bin_lss (decide_eq_false (by omega))) ?_)
  refine wnil (thenN (wseq ?_))
  refine wF (ev rfl rfl) ?_
  refine wexit ?_
  refine thenE ?_
  refine thenE ?_
  refine blkE ?_
  refine thenN (wseq (wreg (wl rfl (omove (v:=.slice pX i cX) rfl rfl (ev rfl rfl) ?_))))
  refine wl rfl (oassign (v:=.slice pX i cX) rfl rfl (ev rfl rfl) ?_)
  refine wnil (thenN ?_)
  refine wleave ?_
  have hin:i = na:=by omega
  refine wret1 Tryd.results18 (tellT (v:=.slice pX i cX) rfl rfl) ?_
  exact ⟨_,_,rfl,⟨pX,cX,Q,by rw [hQ,hin]; unfold mulH; rw [hal],by rw [hin],by rw [hin]⟩,hS.newR 0 rfl rfl⟩
theorem wqfits40 {pm:Option Addr} {nm cm p:Nat} {M:List (List Nat)} {w:World} (hm:MS w pm nm M) (hp2:p < 4294967296) (hb1:nm ≤ 2097152)(hp:¬ MR.Pr p) :
  Calls Tryd.prog 10 #[.slice pm nm cm,.int .u32 ((p:Nat):Int)] w (Ret (Is (.int .i64 40)) w):=by
 have hml:=hm.1
 have hS:=Sep.init w
 refine went Tryd.func10 rfl (n:=39) rfl rfl ?_
 refine wseq (wreg (wl rfl (oassign (v:=.int .i64 0) rfl rfl evc ?_)))
 refine wnil (thenN (wseq (wseq (wreg (wl rfl (omove (v:=.int .u32 (p:Int)) rfl rfl (ev rfl rfl) ?_))))))
 refine wl rfl (ocall rfl rfl Tryd.call20 rfl (wqprimeF hp2 (hp)) (args1 (ev rfl rfl)) ?_)
 rintro _ w1 ⟨_,_,rfl,⟨rfl,rfl⟩,hN⟩
 refine ⟨_,rfl,?_⟩
 replace hS:=hS.news hN; clear hN
 refine wl rfl (onot (b:=false) rfl rfl (ev rfl rfl) ?_)
 refine wnil (thenN ?_)
 refine wT (ev rfl rfl) ?_
 refine wseq (wreg (wl rfl (oassign (v:=.int .i64 40) rfl rfl evc ?_)))
 refine wnil (thenN ?_)
 refine wleave ?_
 refine thenR ?_
 refine wret1 Tryd.results10 (tellT (v:=.int .i64 40) rfl rfl) ?_
 exact ⟨_,_,rfl,isI,hS.new0⟩
theorem wqfits2 {pm:Option Addr} {nm cm p:Nat} {M:List (List Nat)} {w:World} (hm:MS w pm nm M) (hp2:p < 4294967296) (hb1:nm ≤ 2097152)(hp:MR.Pr p) (hr:¬ RectM M) :
  Calls Tryd.prog 10 #[.slice pm nm cm,.int .u32 ((p:Nat):Int)] w (Ret (Is (.int .i64 2)) w):=by
 have hml:=hm.1
 have hS:=Sep.init w
 refine went Tryd.func10 rfl (n:=39) rfl rfl ?_
 refine wseq (wreg (wl rfl (oassign (v:=.int .i64 0) rfl rfl evc ?_)))
 refine wnil (thenN (wseq (wseq (wreg (wl rfl (omove (v:=.int .u32 (p:Int)) rfl rfl (ev rfl rfl) ?_))))))
 refine wl rfl (ocall rfl rfl Tryd.call20 rfl (wqprimeT hp2 (hp)) (args1 (ev rfl rfl)) ?_)
 rintro _ w1 ⟨_,_,rfl,⟨rfl,rfl⟩,hN⟩
 refine ⟨_,rfl,?_⟩
 replace hS:=hS.news hN; clear hN
 refine wl rfl (onot (b:=true) rfl rfl (ev rfl rfl) ?_)
 refine wnil (thenN ?_)
 refine wF (ev rfl rfl) ?_
 refine wskip (thenN (wseq (wseq (wreg (wl rfl (omove (v:=.slice pm nm cm) rfl rfl (ev rfl rfl) ?_))))))
 refine wl rfl (olen rfl rfl rfl Tryd.runUnderlying23 (p:=pm) (k:=nm) (m:=cm) (ev rfl rfl) ?_)
 refine wl rfl (omove (v:=.int .i64 0) rfl rfl evc ?_)
 refine wnil (thenN (wblock ?_))
 refine wloop (σ := Nat) (fun i a9 w' => ∃ (fb:Nat → Value),a9 = act 39 (sets fb [(0,.slice pm nm cm),(10,.slice pm nm cm),(11,.int .i64 (nm:Int)),(12,.int .i64 (i:Int))]) ∧ Sep w [] w' ∧ (i ≤ nm) ∧ (∀ r ∈ M.take i,r.length = colsM M)) (fun i => nm - i) (0) ⟨_,act_sets (l:=[(0,.slice pm nm cm),(10,.slice pm nm cm),(11,.int .i64 (nm:Int)),(12,.int .i64 0)]) ⟨rfl,rfl,rfl,rfl,trivial⟩,hS,Nat.zero_le _,by simp⟩ ?_
 clear hS; rintro i _ w2 ⟨fb,rfl,hS,hi,hrc⟩
 refine wseq (wreg ?_)
 by_cases hli:i < nm
 ·
  obtain ⟨xr,hxr⟩:∃ r,(M)[i]? = some r:=⟨_,List.getElem?_eq_getElem (by have:=hm.1; omega)⟩
  obtain ⟨br,ofr,pr,cr,hpr,hcr,hsr⟩:=hm.2.2 i _ hxr
  obtain ⟨xz,hxz⟩:∃ r,(M)[0]? = some r:=⟨_,List.getElem?_eq_getElem (by have:=hm.1; omega)⟩
  obtain ⟨bz,ofz,pz,cz,hpz,hcz,hsz⟩:=hm.2.2 0 _ hxz
  have hcol:=colsM_zero hxz
  refine wl rfl (obin (u:=.int .i64 (i:Int)) (v:=.int .i64 (nm:Int)) (z:=.bool true) rfl rfl (ev rfl rfl) (ev rfl rfl) (bin_lss (decide_eq_true (by omega))) ?_)
  refine wnil (thenN (wseq ?_))
  refine wT (ev rfl rfl) ?_
  refine wskip (thenN (wseq (wblock (wseq (wreg (wl rfl (oindex (p:=pm) (g:=br) (off:=ofr) (m:=nm) (k:=i) (j:=(ofr + i * 1)) rfl rfl Tryd.runUnderlying23 Tryd.sizeOf29 (ev rfl rfl) (hpr) (ev rfl rfl) (by omega) rfl ?_)))))))
  refine wl rfl (oloadc (v:=.slice pr xr.length cr) (show One Tryd.prog 29 from ⟨Tryd.isAgg29,Tryd.sizeOf29⟩) rfl rfl (ev (v:=.pointer (some ⟨br,(ofr + i * 1),none⟩)) rfl rfl) (hS.cellAt (hcr 0 _ rfl)) ?_)
  refine wl rfl (oassign (v:=.slice pr xr.length cr) rfl rfl (ev rfl rfl) ?_)
  refine wnil (thenN (wseq (wreg (wl rfl (omove (v:=.slice pr xr.length cr) rfl rfl (ev rfl rfl) ?_)))))
  refine wl rfl (olen rfl rfl rfl Tryd.runUnderlying29 (p:=pr) (k:=xr.length) (m:=cr) (ev rfl rfl) ?_)
  refine wl rfl (omove (v:=.slice pm nm cm) rfl rfl (ev rfl rfl) ?_)
  refine wl rfl (oindex (p:=pm) (g:=bz) (off:=ofz) (m:=nm) (k:=0) (j:=(ofz + 0 * 1)) rfl rfl Tryd.runUnderlying23 Tryd.sizeOf29 (ev rfl rfl) (hpz) evc (by omega) rfl ?_)
  refine wl rfl (oloadc (v:=.slice pz xz.length cz) (show One Tryd.prog 29 from ⟨Tryd.isAgg29,Tryd.sizeOf29⟩) rfl rfl (ev (v:=.pointer (some ⟨bz,(ofz + 0 * 1),none⟩)) rfl rfl) (hS.cellAt (hcz 0 _ rfl)) ?_)
  refine wl rfl (olen rfl rfl rfl Tryd.runUnderlying29 (p:=pz) (k:=xz.length) (m:=cz) (ev rfl rfl) ?_)
  by_cases hrl:xr.length = colsM M
  ·
   refine wl rfl (obin (u:=.int .i64 (xr.length:Int)) (v:=.int .i64 (xz.length:Int)) (z:=.bool false) rfl rfl (ev rfl rfl) (ev rfl rfl) (bin_neq (neF (by rw [← hcol]; omega))) ?_)
   refine wnil (thenN ?_)
   refine wF (ev rfl rfl) ?_
   refine wskip (blkN (thenN (wreg (wl rfl (obin (u:=.int .i64 (i:Int)) (v:=.int .i64 1) (z:=.int .i64 (((i + 1:Nat):Int))) rfl rfl (ev rfl rfl) evc (bin_add (wrap_i64 (by omega) (by omega))) ?_)))))
   refine wl rfl (omove (v:=.int .i64 (((i + 1:Nat):Int))) rfl rfl (ev rfl rfl) ?_)
   refine wnil (thenN ?_)
   exact ⟨(i + 1),⟨_,act_sets (l:=[(0,.slice pm nm cm),(10,.slice pm nm cm),(11,.int .i64 (nm:Int)),(12,.int .i64 (((i + 1:Nat):Int)))]) ⟨rfl,rfl,rfl,rfl,trivial⟩,hS.pick [] (by decide) rfl,by omega,by rw [take_next hxr]; intro u hu; exact (List.mem_append.1 hu).elim (hrc u) (fun h => by rw [List.mem_singleton.1 h]; exact hrl)⟩,by omega⟩
  ·
   refine wl rfl (obin (u:=.int .i64 (xr.length:Int)) (v:=.int .i64 (xz.length:Int)) (z:=.bool true) rfl rfl (ev rfl rfl) (ev rfl rfl) (bin_neq (neT (by rw [← hcol]; omega))) ?_)
   refine wnil (thenN ?_)
   refine wT (ev rfl rfl) ?_
   refine wseq (wreg (wl rfl (oassign (v:=.int .i64 2) rfl rfl evc ?_)))
   refine wnil (thenN ?_)
   refine wleave ?_
   refine blkR ?_
   refine thenR ?_
   refine thenR ?_
   refine blkR ?_
   refine thenR ?_
   refine wret1 Tryd.results10 (tellT (v:=.int .i64 2) rfl rfl) ?_
   exact ⟨_,_,rfl,isI,hS.new0⟩
 ·
  refine wl rfl (obin (u:=.int .i64 (i:Int)) (v:=.int .i64 (nm:Int)) (z:=.bool false) rfl rfl (ev rfl rfl) (ev rfl rfl) (bin_lss (decide_eq_false (by omega))) ?_)
  refine wnil (thenN (wseq ?_))
  refine wF (ev rfl rfl) ?_
  refine wexit ?_
  refine thenE ?_
  refine thenE ?_
  refine blkE ?_
  refine thenN (wseq (wseq (wreg (wl rfl (omove (v:=.slice pm nm cm) rfl rfl (ev rfl rfl) ?_)))))
  refine wl rfl (olen rfl rfl rfl Tryd.runUnderlying23 (p:=pm) (k:=nm) (m:=cm) (ev rfl rfl) ?_)
  exact absurd (fun r hr => hrc r (by rw [List.take_of_length_le (by omega)]; exact hr)) hr
theorem wqfits3 {pm:Option Addr} {nm cm p:Nat} {M:List (List Nat)} {w:World} (hm:MS w pm nm M) (hp2:p < 4294967296) (hb1:nm ≤ 2097152)(hp:MR.Pr p) (hr:RectM M) (hq:¬ (M.length ≠ 0 ∧ M.length = colsM M)) :
  Calls Tryd.prog 10 #[.slice pm nm cm,.int .u32 ((p:Nat):Int)] w (Ret (Is (.int .i64 3)) w):=by
 have hml:=hm.1
 have hS:=Sep.init w
 refine went Tryd.func10 rfl (n:=39) rfl rfl ?_
 refine wseq (wreg (wl rfl (oassign (v:=.int .i64 0) rfl rfl evc ?_)))
 refine wnil (thenN (wseq (wseq (wreg (wl rfl (omove (v:=.int .u32 (p:Int)) rfl rfl (ev rfl rfl) ?_))))))
 refine wl rfl (ocall rfl rfl Tryd.call20 rfl (wqprimeT hp2 (hp)) (args1 (ev rfl rfl)) ?_)
 rintro _ w1 ⟨_,_,rfl,⟨rfl,rfl⟩,hN⟩
 refine ⟨_,rfl,?_⟩
 replace hS:=hS.news hN; clear hN
 refine wl rfl (onot (b:=true) rfl rfl (ev rfl rfl) ?_)
 refine wnil (thenN ?_)
 refine wF (ev rfl rfl) ?_
 refine wskip (thenN (wseq (wseq (wreg (wl rfl (omove (v:=.slice pm nm cm) rfl rfl (ev rfl rfl) ?_))))))
 refine wl rfl (olen rfl rfl rfl Tryd.runUnderlying23 (p:=pm) (k:=nm) (m:=cm) (ev rfl rfl) ?_)
 refine wl rfl (omove (v:=.int .i64 0) rfl rfl evc ?_)
 refine wnil (thenN (wblock ?_))
 refine wloop (σ := Nat) (fun i a9 w' => ∃ (fb:Nat → Value),a9 = act 39 (sets fb [(0,.slice pm nm cm),(10,.slice pm nm cm),(11,.int .i64 (nm:Int)),(12,.int .i64 (i:Int))]) ∧ Sep w [] w' ∧ (i ≤ nm)) (fun i => nm - i) (0) ⟨_,act_sets (l:=[(0,.slice pm nm cm),(10,.slice pm nm cm),(11,.int .i64 (nm:Int)),(12,.int .i64 0)]) ⟨rfl,rfl,rfl,rfl,trivial⟩,hS,Nat.zero_le _⟩ ?_
 clear hS; rintro i _ w2 ⟨fb,rfl,hS,hi⟩
 refine wseq (wreg ?_)
 by_cases hli:i < nm
 ·
  obtain ⟨xr,hxr⟩:∃ r,(M)[i]? = some r:=⟨_,List.getElem?_eq_getElem (by have:=hm.1; omega)⟩
  obtain ⟨br,ofr,pr,cr,hpr,hcr,hsr⟩:=hm.2.2 i _ hxr
  obtain ⟨xz,hxz⟩:∃ r,(M)[0]? = some r:=⟨_,List.getElem?_eq_getElem (by have:=hm.1; omega)⟩
  obtain ⟨bz,ofz,pz,cz,hpz,hcz,hsz⟩:=hm.2.2 0 _ hxz
  have hcol:=colsM_zero hxz
  have hrl:=hr xr (List.mem_of_getElem? hxr)
  refine wl rfl (obin (u:=.int .i64 (i:Int)) (v:=.int .i64 (nm:Int)) (z:=.bool true) rfl rfl (ev rfl rfl) (ev rfl rfl) (bin_lss (decide_eq_true (by omega))) ?_)
  refine wnil (thenN (wseq ?_))
  refine wT (ev rfl rfl) ?_
  refine wskip (thenN (wseq (wblock (wseq (wreg (wl rfl (oindex (p:=pm) (g:=br) (off:=ofr) (m:=nm) (k:=i) (j:=(ofr + i * 1)) rfl rfl Tryd.runUnderlying23 Tryd.sizeOf29 (ev rfl rfl) (hpr) (ev rfl rfl) (by omega) rfl ?_)))))))
  refine wl rfl (oloadc (v:=.slice pr xr.length cr) (show One Tryd.prog 29 from ⟨Tryd.isAgg29,Tryd.sizeOf29⟩) rfl rfl (ev (v:=.pointer (some ⟨br,(ofr + i * 1),none⟩)) rfl rfl) (hS.cellAt (hcr 0 _ rfl)) ?_)
  refine wl rfl (oassign (v:=.slice pr xr.length cr) rfl rfl (ev rfl rfl) ?_)
  refine wnil (thenN (wseq (wreg (wl rfl (omove (v:=.slice pr xr.length cr) rfl rfl (ev rfl rfl) ?_)))))
  refine wl rfl (olen rfl rfl rfl Tryd.runUnderlying29 (p:=pr) (k:=xr.length) (m:=cr) (ev rfl rfl) ?_)
  refine wl rfl (omove (v:=.slice pm nm cm) rfl rfl (ev rfl rfl) ?_)
  refine wl rfl (oindex (p:=pm) (g:=bz) (off:=ofz) (m:=nm) (k:=0) (j:=(ofz + 0 * 1)) rfl rfl Tryd.runUnderlying23 Tryd.sizeOf29 (ev rfl rfl) (hpz) evc (by omega) rfl ?_)
  refine wl rfl (oloadc (v:=.slice pz xz.length cz) (show One Tryd.prog 29 from ⟨Tryd.isAgg29,Tryd.sizeOf29⟩) rfl rfl (ev (v:=.pointer (some ⟨bz,(ofz + 0 * 1),none⟩)) rfl rfl) (hS.cellAt (hcz 0 _ rfl)) ?_)
  refine wl rfl (olen rfl rfl rfl Tryd.runUnderlying29 (p:=pz) (k:=xz.length) (m:=cz) (ev rfl rfl) ?_)
  refine wl rfl (obin (u:=.int .i64 (xr.length:Int)) (v:=.int .i64 (xz.length:Int)) (z:=.bool false) rfl rfl (ev rfl rfl) (ev rfl rfl) (bin_neq (neF (by rw [← hcol]; omega))) ?_)
  refine wnil (thenN ?_)
  refine wF (ev rfl rfl) ?_
  refine wskip (blkN (thenN (wreg (wl rfl (obin (u:=.int .i64 (i:Int)) (v:=.int .i64 1) (z:=.int .i64 (((i + 1:Nat):Int))) rfl rfl (ev rfl rfl) evc (bin_add (wrap_i64 (by omega) (by omega))) ?_)))))
  refine wl rfl (omove (v:=.int .i64 (((i + 1:Nat):Int))) rfl rfl (ev rfl rfl) ?_)
  refine wnil (thenN ?_)
  exact ⟨(i + 1),⟨_,act_sets (l:=[(0,.slice pm nm cm),(10,.slice pm nm cm),(11,.int .i64 (nm:Int)),(12,.int .i64 (((i + 1:Nat):Int)))]) ⟨rfl,rfl,rfl,rfl,trivial⟩,hS.pick [] (by decide) rfl,by omega⟩,by omega⟩
 ·
  refine wl rfl (obin (u:=.int .i64 (i:Int)) (v:=.int .i64 (nm:Int)) (z:=.bool false) rfl rfl (ev rfl rfl) (ev rfl rfl) (bin_lss (decide_eq_false (by omega))) ?_)
  refine wnil (thenN (wseq ?_))
  refine wF (ev rfl rfl) ?_
  refine wexit ?_
  refine thenE ?_
  refine thenE ?_
  refine blkE ?_
  refine thenN (wseq (wseq (wreg (wl rfl (omove (v:=.slice pm nm cm) rfl rfl (ev rfl rfl) ?_)))))
  refine wl rfl (olen rfl rfl rfl Tryd.runUnderlying23 (p:=pm) (k:=nm) (m:=cm) (ev rfl rfl) ?_)
  by_cases h0:M.length = 0
  ·
   refine wl rfl (obin (u:=.int .i64 (nm:Int)) (v:=.int .i64 0) (z:=.bool true) rfl rfl (ev rfl rfl) evc (bin_eql (eqT (by omega))) ?_)
   refine wl rfl (omove (v:=.bool true) rfl rfl (ev rfl rfl) ?_)
   refine wlOff (e:=27) (d:=28) (b':=true) rfl rfl rfl rfl rfl rfl ?_
   refine wlOff (e:=27) (d:=29) (b':=true) rfl rfl rfl rfl rfl rfl ?_
   refine wlOff (e:=27) (d:=30) (b':=true) rfl rfl rfl rfl rfl rfl ?_
   refine wlOff (e:=27) (d:=31) (b':=true) rfl rfl rfl rfl rfl rfl ?_
   refine wlOff (e:=27) (d:=32) (b':=true) rfl rfl rfl rfl rfl rfl ?_
   refine wlOff (e:=27) (d:=33) (b':=true) rfl rfl rfl rfl rfl rfl ?_
   refine wlOff (e:=27) (d:=34) (b':=true) rfl rfl rfl rfl rfl rfl ?_
   refine wl rfl (opick (b:=true) (v:=.bool true) rfl rfl (ev rfl rfl) evc ?_)
   refine wnil (thenN ?_)
   refine wT (ev rfl rfl) ?_
   refine wseq (wreg (wl rfl (oassign (v:=.int .i64 3) rfl rfl evc ?_)))
   refine wnil (thenN ?_)
   refine wleave ?_
   refine thenR ?_
   refine wret1 Tryd.results10 (tellT (v:=.int .i64 3) rfl rfl) ?_
   exact ⟨_,_,rfl,isI,hS.new0⟩
  ·
   refine wl rfl (obin (u:=.int .i64 (nm:Int)) (v:=.int .i64 0) (z:=.bool false) rfl rfl (ev rfl rfl) evc (bin_eql (eqF (by omega))) ?_)
   refine wl rfl (omove (v:=.bool false) rfl rfl (ev rfl rfl) ?_)
   refine wlOn (e:=27) rfl rfl rfl rfl (omove (v:=.slice pm nm cm) rfl rfl (ev rfl rfl) ?_)
   refine wlOn (e:=27) rfl rfl rfl rfl (olen rfl rfl rfl Tryd.runUnderlying23 (p:=pm) (k:=nm) (m:=cm) (ev rfl rfl) ?_)
   refine wlOn (e:=27) rfl rfl rfl rfl (omove (v:=.slice pm nm cm) rfl rfl (ev rfl rfl) ?_)
   obtain ⟨xz,hxz⟩:∃ r,(M)[0]? = some r:=⟨_,List.getElem?_eq_getElem (by have:=hm.1; omega)⟩
   obtain ⟨bz,ofz,pz,cz,hpz,hcz,hsz⟩:=hm.2.2 0 _ hxz
   have hcol:=colsM_zero hxz
   refine wlOn (e:=27) rfl rfl rfl rfl (oindex (p:=pm) (g:=bz) (off:=ofz) (m:=nm) (k:=0) (j:=(ofz + 0 * 1)) rfl rfl Tryd.runUnderlying23 Tryd.sizeOf29 (ev rfl rfl) (hpz) evc (by omega) rfl ?_)
   refine wlOn (e:=27) rfl rfl rfl rfl (oloadc (v:=.slice pz xz.length cz) (show One Tryd.prog 29 from ⟨Tryd.isAgg29,Tryd.sizeOf29⟩) rfl rfl (ev (v:=.pointer (some ⟨bz,(ofz + 0 * 1),none⟩)) rfl rfl) (hS.cellAt (hcz 0 _ rfl)) ?_)
   refine wlOn (e:=27) rfl rfl rfl rfl (olen rfl rfl rfl Tryd.runUnderlying29 (p:=pz) (k:=xz.length) (m:=cz) (ev rfl rfl) ?_)
   refine wlOn (e:=27) rfl rfl rfl rfl (obin (u:=.int .i64 (nm:Int)) (v:=.int .i64 (xz.length:Int)) (z:=.bool true) rfl rfl (ev rfl rfl) (ev rfl rfl) (bin_neq (neT (by rw [← hcol]; omega))) ?_)
   refine wl rfl (opick (b:=false) (v:=.bool true) rfl rfl (ev rfl rfl) (ev rfl rfl) ?_)
   refine wnil (thenN ?_)
   refine wT (ev rfl rfl) ?_
   refine wseq (wreg (wl rfl (oassign (v:=.int .i64 3) rfl rfl evc ?_)))
   refine wnil (thenN ?_)
   refine wleave ?_
   refine thenR ?_
   refine wret1 Tryd.results10 (tellT (v:=.int .i64 3) rfl rfl) ?_
   exact ⟨_,_,rfl,isI,hS.new0⟩
theorem wqfits4 {pm:Option Addr} {nm cm p:Nat} {M:List (List Nat)} {w:World} (hm:MS w pm nm M) (hp2:p < 4294967296) (hb1:nm ≤ 2097152)(hp:MR.Pr p) (hr:RectM M) (h0:M.length ≠ 0) (hq:M.length = colsM M) (hbig:24 < M.length) :
  Calls Tryd.prog 10 #[.slice pm nm cm,.int .u32 ((p:Nat):Int)] w (Ret (Is (.int .i64 4)) w):=by
 have hml:=hm.1
 have hS:=Sep.init w
 refine went Tryd.func10 rfl (n:=39) rfl rfl ?_
 refine wseq (wreg (wl rfl (oassign (v:=.int .i64 0) rfl rfl evc ?_)))
 refine wnil (thenN (wseq (wseq (wreg (wl rfl (omove (v:=.int .u32 (p:Int)) rfl rfl (ev rfl rfl) ?_))))))
 refine wl rfl (ocall rfl rfl Tryd.call20 rfl (wqprimeT hp2 (hp)) (args1 (ev rfl rfl)) ?_)
 rintro _ w1 ⟨_,_,rfl,⟨rfl,rfl⟩,hN⟩
 refine ⟨_,rfl,?_⟩
 replace hS:=hS.news hN; clear hN
 refine wl rfl (onot (b:=true) rfl rfl (ev rfl rfl) ?_)
 refine wnil (thenN ?_)
 refine wF (ev rfl rfl) ?_
 refine wskip (thenN (wseq (wseq (wreg (wl rfl (omove (v:=.slice pm nm cm) rfl rfl (ev rfl rfl) ?_))))))
 refine wl rfl (olen rfl rfl rfl Tryd.runUnderlying23 (p:=pm) (k:=nm) (m:=cm) (ev rfl rfl) ?_)
 refine wl rfl (omove (v:=.int .i64 0) rfl rfl evc ?_)
 refine wnil (thenN (wblock ?_))
 refine wloop (σ := Nat) (fun i a9 w' => ∃ (fb:Nat → Value),a9 = act 39 (sets fb [(0,.slice pm nm cm),(10,.slice pm nm cm),(11,.int .i64 (nm:Int)),(12,.int .i64 (i:Int))]) ∧ Sep w [] w' ∧ (i ≤ nm)) (fun i => nm - i) (0) ⟨_,act_sets (l:=[(0,.slice pm nm cm),(10,.slice pm nm cm),(11,.int .i64 (nm:Int)),(12,.int .i64 0)]) ⟨rfl,rfl,rfl,rfl,trivial⟩,hS,Nat.zero_le _⟩ ?_
 clear hS; rintro i _ w2 ⟨fb,rfl,hS,hi⟩
 refine wseq (wreg ?_)
 by_cases hli:i < nm
 ·
  obtain ⟨xr,hxr⟩:∃ r,(M)[i]? = some r:=⟨_,List.getElem?_eq_getElem (by have:=hm.1; omega)⟩
  obtain ⟨br,ofr,pr,cr,hpr,hcr,hsr⟩:=hm.2.2 i _ hxr
  obtain ⟨xz,hxz⟩:∃ r,(M)[0]? = some r:=⟨_,List.getElem?_eq_getElem (by have:=hm.1; omega)⟩
  obtain ⟨bz,ofz,pz,cz,hpz,hcz,hsz⟩:=hm.2.2 0 _ hxz
  have hcol:=colsM_zero hxz
  have hrl:=hr xr (List.mem_of_getElem? hxr)
  refine wl rfl (obin (u:=.int .i64 (i:Int)) (v:=.int .i64 (nm:Int)) (z:=.bool true) rfl rfl (ev rfl rfl) (ev rfl rfl) (bin_lss (decide_eq_true (by omega))) ?_)
  refine wnil (thenN (wseq ?_))
  refine wT (ev rfl rfl) ?_
  refine wskip (thenN (wseq (wblock (wseq (wreg (wl rfl (oindex (p:=pm) (g:=br) (off:=ofr) (m:=nm) (k:=i) (j:=(ofr + i * 1)) rfl rfl Tryd.runUnderlying23 Tryd.sizeOf29 (ev rfl rfl) (hpr) (ev rfl rfl) (by omega) rfl ?_)))))))
  refine wl rfl (oloadc (v:=.slice pr xr.length cr) (show One Tryd.prog 29 from ⟨Tryd.isAgg29,Tryd.sizeOf29⟩) rfl rfl (ev (v:=.pointer (some ⟨br,(ofr + i * 1),none⟩)) rfl rfl) (hS.cellAt (hcr 0 _ rfl)) ?_)
  refine wl rfl (oassign (v:=.slice pr xr.length cr) rfl rfl (ev rfl rfl) ?_)
  refine wnil (thenN (wseq (wreg (wl rfl (omove (v:=.slice pr xr.length cr) rfl rfl (ev rfl rfl) ?_)))))
  refine wl rfl (olen rfl rfl rfl Tryd.runUnderlying29 (p:=pr) (k:=xr.length) (m:=cr) (ev rfl rfl) ?_)
  refine wl rfl (omove (v:=.slice pm nm cm) rfl rfl (ev rfl rfl) ?_)
  refine wl rfl (oindex (p:=pm) (g:=bz) (off:=ofz) (m:=nm) (k:=0) (j:=(ofz + 0 * 1)) rfl rfl Tryd.runUnderlying23 Tryd.sizeOf29 (ev rfl rfl) (hpz) evc (by omega) rfl ?_)
  refine wl rfl (oloadc (v:=.slice pz xz.length cz) (show One Tryd.prog 29 from ⟨Tryd.isAgg29,Tryd.sizeOf29⟩) rfl rfl (ev (v:=.pointer (some ⟨bz,(ofz + 0 * 1),none⟩)) rfl rfl) (hS.cellAt (hcz 0 _ rfl)) ?_)
  refine wl rfl (olen rfl rfl rfl Tryd.runUnderlying29 (p:=pz) (k:=xz.length) (m:=cz) (ev rfl rfl) ?_)
  refine wl rfl (obin (u:=.int .i64 (xr.length:Int)) (v:=.int .i64 (xz.length:Int)) (z:=.bool false) rfl rfl (ev rfl rfl) (ev rfl rfl) (bin_neq (neF (by rw [← hcol]; omega))) ?_)
  refine wnil (thenN ?_)
  refine wF (ev rfl rfl) ?_
  refine wskip (blkN (thenN (wreg (wl rfl (obin (u:=.int .i64 (i:Int)) (v:=.int .i64 1) (z:=.int .i64 (((i + 1:Nat):Int))) rfl rfl (ev rfl rfl) evc (bin_add (wrap_i64 (by omega) (by omega))) ?_)))))
  refine wl rfl (omove (v:=.int .i64 (((i + 1:Nat):Int))) rfl rfl (ev rfl rfl) ?_)
  refine wnil (thenN ?_)
  exact ⟨(i + 1),⟨_,act_sets (l:=[(0,.slice pm nm cm),(10,.slice pm nm cm),(11,.int .i64 (nm:Int)),(12,.int .i64 (((i + 1:Nat):Int)))]) ⟨rfl,rfl,rfl,rfl,trivial⟩,hS.pick [] (by decide) rfl,by omega⟩,by omega⟩
 ·
  refine wl rfl (obin (u:=.int .i64 (i:Int)) (v:=.int .i64 (nm:Int)) (z:=.bool false) rfl rfl (ev rfl rfl) (ev rfl rfl) (bin_lss (decide_eq_false (by omega))) ?_)
  refine wnil (thenN (wseq ?_))
  refine wF (ev rfl rfl) ?_
  refine wexit ?_
  refine thenE ?_
  refine thenE ?_
  refine blkE ?_
  refine thenN (wseq (wseq (wreg (wl rfl (omove (v:=.slice pm nm cm) rfl rfl (ev rfl rfl) ?_)))))
  refine wl rfl (olen rfl rfl rfl Tryd.runUnderlying23 (p:=pm) (k:=nm) (m:=cm) (ev rfl rfl) ?_)
  refine wl rfl (obin (u:=.int .i64 (nm:Int)) (v:=.int .i64 0) (z:=.bool false) rfl rfl (ev rfl rfl) evc (bin_eql (eqF (by omega))) ?_)
  refine wl rfl (omove (v:=.bool false) rfl rfl (ev rfl rfl) ?_)
  refine wlOn (e:=27) rfl rfl rfl rfl (omove (v:=.slice pm nm cm) rfl rfl (ev rfl rfl) ?_)
  refine wlOn (e:=27) rfl rfl rfl rfl (olen rfl rfl rfl Tryd.runUnderlying23 (p:=pm) (k:=nm) (m:=cm) (ev rfl rfl) ?_)
  refine wlOn (e:=27) rfl rfl rfl rfl (omove (v:=.slice pm nm cm) rfl rfl (ev rfl rfl) ?_)
  obtain ⟨xz,hxz⟩:∃ r,(M)[0]? = some r:=⟨_,List.getElem?_eq_getElem (by have:=hm.1; omega)⟩
  obtain ⟨bz,ofz,pz,cz,hpz,hcz,hsz⟩:=hm.2.2 0 _ hxz
  have hcol:=colsM_zero hxz
  refine wlOn (e:=27) rfl rfl rfl rfl (oindex (p:=pm) (g:=bz) (off:=ofz) (m:=nm) (k:=0) (j:=(ofz + 0 * 1)) rfl rfl Tryd.runUnderlying23 Tryd.sizeOf29 (ev rfl rfl) (hpz) evc (by omega) rfl ?_)
  refine wlOn (e:=27) rfl rfl rfl rfl (oloadc (v:=.slice pz xz.length cz) (show One Tryd.prog 29 from ⟨Tryd.isAgg29,Tryd.sizeOf29⟩) rfl rfl (ev (v:=.pointer (some ⟨bz,(ofz + 0 * 1),none⟩)) rfl rfl) (hS.cellAt (hcz 0 _ rfl)) ?_)
  refine wlOn (e:=27) rfl rfl rfl rfl (olen rfl rfl rfl Tryd.runUnderlying29 (p:=pz) (k:=xz.length) (m:=cz) (ev rfl rfl) ?_)
  refine wlOn (e:=27) rfl rfl rfl rfl (obin (u:=.int .i64 (nm:Int)) (v:=.int .i64 (xz.length:Int)) (z:=.bool false) rfl rfl (ev rfl rfl) (ev rfl rfl) (bin_neq (neF (by rw [← hcol]; omega))) ?_)
  refine wl rfl (opick (b:=false) (v:=.bool false) rfl rfl (ev rfl rfl) (ev rfl rfl) ?_)
  refine wnil (thenN ?_)
  refine wF (ev rfl rfl) ?_
  refine wskip (thenN (wseq (wseq (wreg (wl rfl (omove (v:=.slice pm nm cm) rfl rfl (ev rfl rfl) ?_))))))
  refine wl rfl (olen rfl rfl rfl Tryd.runUnderlying23 (p:=pm) (k:=nm) (m:=cm) (ev rfl rfl) ?_)
  refine wl rfl (obin (u:=.int .i64 (nm:Int)) (v:=.int .i64 24) (z:=.bool true) rfl rfl (ev rfl rfl) evc (bin_gtr (decide_eq_true (by omega))) ?_)
  refine wnil (thenN ?_)
  refine wT (ev rfl rfl) ?_
  refine wseq (wreg (wl rfl (oassign (v:=.int .i64 4) rfl rfl evc ?_)))
  refine wnil (thenN ?_)
  refine wleave ?_
  refine thenR ?_
  refine wret1 Tryd.results10 (tellT (v:=.int .i64 4) rfl rfl) ?_
  exact ⟨_,_,rfl,isI,hS.new0⟩
theorem wqfits0 {pm:Option Addr} {nm cm p:Nat} {M:List (List Nat)} {w:World} (hm:MS w pm nm M) (hp2:p < 4294967296) (hb1:nm ≤ 2097152)(hp:MR.Pr p) (hr:RectM M) (h0:M.length ≠ 0) (hq:M.length = colsM M) (hbig:M.length ≤ 24) :
  Calls Tryd.prog 10 #[.slice pm nm cm,.int .u32 ((p:Nat):Int)] w (Ret (Is (.int .i64 0)) w):=by
 have hml:=hm.1
 have hS:=Sep.init w
 refine went Tryd.func10 rfl (n:=39) rfl rfl ?_
 refine wseq (wreg (wl rfl (oassign (v:=.int .i64 0) rfl rfl evc ?_)))
 refine wnil (thenN (wseq (wseq (wreg (wl rfl (omove (v:=.int .u32 (p:Int)) rfl rfl (ev rfl rfl) ?_))))))
 refine wl rfl (ocall rfl rfl Tryd.call20 rfl (wqprimeT hp2 (hp)) (args1 (ev rfl rfl)) ?_)
 rintro _ w1 ⟨_,_,rfl,⟨rfl,rfl⟩,hN⟩
 refine ⟨_,rfl,?_⟩
 replace hS:=hS.news hN; clear hN
 refine wl rfl (onot (b:=true) rfl rfl (ev rfl rfl) ?_)
 refine wnil (thenN ?_)
 refine wF (ev rfl rfl) ?_
 refine wskip (thenN (wseq (wseq (wreg (wl rfl (omove (v:=.slice pm nm cm) rfl rfl (ev rfl rfl) ?_))))))
 refine wl rfl (olen rfl rfl rfl Tryd.runUnderlying23 (p:=pm) (k:=nm) (m:=cm) (ev rfl rfl) ?_)
 refine wl rfl (omove (v:=.int .i64 0) rfl rfl evc ?_)
 refine wnil (thenN (wblock ?_))
 refine wloop (σ := Nat) (fun i a9 w' => ∃ (fb:Nat → Value),a9 = act 39 (sets fb [(0,.slice pm nm cm),(10,.slice pm nm cm),(11,.int .i64 (nm:Int)),(12,.int .i64 (i:Int))]) ∧ Sep w [] w' ∧ (i ≤ nm)) (fun i => nm - i) (0) ⟨_,act_sets (l:=[(0,.slice pm nm cm),(10,.slice pm nm cm),(11,.int .i64 (nm:Int)),(12,.int .i64 0)]) ⟨rfl,rfl,rfl,rfl,trivial⟩,hS,Nat.zero_le _⟩ ?_
 clear hS; rintro i _ w2 ⟨fb,rfl,hS,hi⟩
 refine wseq (wreg ?_)
 by_cases hli:i < nm
 ·
  obtain ⟨xr,hxr⟩:∃ r,(M)[i]? = some r:=⟨_,List.getElem?_eq_getElem (by have:=hm.1; omega)⟩
  obtain ⟨br,ofr,pr,cr,hpr,hcr,hsr⟩:=hm.2.2 i _ hxr
  obtain ⟨xz,hxz⟩:∃ r,(M)[0]? = some r:=⟨_,List.getElem?_eq_getElem (by have:=hm.1; omega)⟩
  obtain ⟨bz,ofz,pz,cz,hpz,hcz,hsz⟩:=hm.2.2 0 _ hxz
  have hcol:=colsM_zero hxz
  have hrl:=hr xr (List.mem_of_getElem? hxr)
  refine wl rfl (obin (u:=.int .i64 (i:Int)) (v:=.int .i64 (nm:Int)) (z:=.bool true) rfl rfl (ev rfl rfl) (ev rfl rfl) (bin_lss (decide_eq_true (by omega))) ?_)
  refine wnil (thenN (wseq ?_))
  refine wT (ev rfl rfl) ?_
  refine wskip (thenN (wseq (wblock (wseq (wreg (wl rfl (oindex (p:=pm) (g:=br) (off:=ofr) (m:=nm) (k:=i) (j:=(ofr + i * 1)) rfl rfl Tryd.runUnderlying23 Tryd.sizeOf29 (ev rfl rfl) (hpr) (ev rfl rfl) (by omega) rfl ?_)))))))
  refine wl rfl (oloadc (v:=.slice pr xr.length cr) (show One Tryd.prog 29 from ⟨Tryd.isAgg29,Tryd.sizeOf29⟩) rfl rfl (ev (v:=.pointer (some ⟨br,(ofr + i * 1),none⟩)) rfl rfl) (hS.cellAt (hcr 0 _ rfl)) ?_)
  refine wl rfl (oassign (v:=.slice pr xr.length cr) rfl rfl (ev rfl rfl) ?_)
  refine wnil (thenN (wseq (wreg (wl rfl (omove (v:=.slice pr xr.length cr) rfl rfl (ev rfl rfl) ?_)))))
  refine wl rfl (olen rfl rfl rfl Tryd.runUnderlying29 (p:=pr) (k:=xr.length) (m:=cr) (ev rfl rfl) ?_)
  refine wl rfl (omove (v:=.slice pm nm cm) rfl rfl (ev rfl rfl) ?_)
  refine wl rfl (oindex (p:=pm) (g:=bz) (off:=ofz) (m:=nm) (k:=0) (j:=(ofz + 0 * 1)) rfl rfl Tryd.runUnderlying23 Tryd.sizeOf29 (ev rfl rfl) (hpz) evc (by omega) rfl ?_)
  refine wl rfl (oloadc (v:=.slice pz xz.length cz) (show One Tryd.prog 29 from ⟨Tryd.isAgg29,Tryd.sizeOf29⟩) rfl rfl (ev (v:=.pointer (some ⟨bz,(ofz + 0 * 1),none⟩)) rfl rfl) (hS.cellAt (hcz 0 _ rfl)) ?_)
  refine wl rfl (olen rfl rfl rfl Tryd.runUnderlying29 (p:=pz) (k:=xz.length) (m:=cz) (ev rfl rfl) ?_)
  refine wl rfl (obin (u:=.int .i64 (xr.length:Int)) (v:=.int .i64 (xz.length:Int)) (z:=.bool false) rfl rfl (ev rfl rfl) (ev rfl rfl) (bin_neq (neF (by rw [← hcol]; omega))) ?_)
  refine wnil (thenN ?_)
  refine wF (ev rfl rfl) ?_
  refine wskip (blkN (thenN (wreg (wl rfl (obin (u:=.int .i64 (i:Int)) (v:=.int .i64 1) (z:=.int .i64 (((i + 1:Nat):Int))) rfl rfl (ev rfl rfl) evc (bin_add (wrap_i64 (by omega) (by omega))) ?_)))))
  refine wl rfl (omove (v:=.int .i64 (((i + 1:Nat):Int))) rfl rfl (ev rfl rfl) ?_)
  refine wnil (thenN ?_)
  exact ⟨(i + 1),⟨_,act_sets (l:=[(0,.slice pm nm cm),(10,.slice pm nm cm),(11,.int .i64 (nm:Int)),(12,.int .i64 (((i + 1:Nat):Int)))]) ⟨rfl,rfl,rfl,rfl,trivial⟩,hS.pick [] (by decide) rfl,by omega⟩,by omega⟩
 ·
  refine wl rfl (obin (u:=.int .i64 (i:Int)) (v:=.int .i64 (nm:Int)) (z:=.bool false) rfl rfl (ev rfl rfl) (ev rfl rfl) (bin_lss (decide_eq_false (by omega))) ?_)
  refine wnil (thenN (wseq ?_))
  refine wF (ev rfl rfl) ?_
  refine wexit ?_
  refine thenE ?_
  refine thenE ?_
  refine blkE ?_
  refine thenN (wseq (wseq (wreg (wl rfl (omove (v:=.slice pm nm cm) rfl rfl (ev rfl rfl) ?_)))))
  refine wl rfl (olen rfl rfl rfl Tryd.runUnderlying23 (p:=pm) (k:=nm) (m:=cm) (ev rfl rfl) ?_)
  refine wl rfl (obin (u:=.int .i64 (nm:Int)) (v:=.int .i64 0) (z:=.bool false) rfl rfl (ev rfl rfl) evc (bin_eql (eqF (by omega))) ?_)
  refine wl rfl (omove (v:=.bool false) rfl rfl (ev rfl rfl) ?_)
  refine wlOn (e:=27) rfl rfl rfl rfl (omove (v:=.slice pm nm cm) rfl rfl (ev rfl rfl) ?_)
  refine wlOn (e:=27) rfl rfl rfl rfl (olen rfl rfl rfl Tryd.runUnderlying23 (p:=pm) (k:=nm) (m:=cm) (ev rfl rfl) ?_)
  refine wlOn (e:=27) rfl rfl rfl rfl (omove (v:=.slice pm nm cm) rfl rfl (ev rfl rfl) ?_)
  obtain ⟨xz,hxz⟩:∃ r,(M)[0]? = some r:=⟨_,List.getElem?_eq_getElem (by have:=hm.1; omega)⟩
  obtain ⟨bz,ofz,pz,cz,hpz,hcz,hsz⟩:=hm.2.2 0 _ hxz
  have hcol:=colsM_zero hxz
  refine wlOn (e:=27) rfl rfl rfl rfl (oindex (p:=pm) (g:=bz) (off:=ofz) (m:=nm) (k:=0) (j:=(ofz + 0 * 1)) rfl rfl Tryd.runUnderlying23 Tryd.sizeOf29 (ev rfl rfl) (hpz) evc (by omega) rfl ?_)
  refine wlOn (e:=27) rfl rfl rfl rfl (oloadc (v:=.slice pz xz.length cz) (show One Tryd.prog 29 from ⟨Tryd.isAgg29,Tryd.sizeOf29⟩) rfl rfl (ev (v:=.pointer (some ⟨bz,(ofz + 0 * 1),none⟩)) rfl rfl) (hS.cellAt (hcz 0 _ rfl)) ?_)
  refine wlOn (e:=27) rfl rfl rfl rfl (olen rfl rfl rfl Tryd.runUnderlying29 (p:=pz) (k:=xz.length) (m:=cz) (ev rfl rfl) ?_)
  refine wlOn (e:=27) rfl rfl rfl rfl (obin (u:=.int .i64 (nm:Int)) (v:=.int .i64 (xz.length:Int)) (z:=.bool false) rfl rfl (ev rfl rfl) (ev rfl rfl) (bin_neq (neF (by rw [← hcol]; omega))) ?_)
  refine wl rfl (opick (b:=false) (v:=.bool false) rfl rfl (ev rfl rfl) (ev rfl rfl) ?_)
  refine wnil (thenN ?_)
  refine wF (ev rfl rfl) ?_
  refine wskip (thenN (wseq (wseq (wreg (wl rfl (omove (v:=.slice pm nm cm) rfl rfl (ev rfl rfl) ?_))))))
  refine wl rfl (olen rfl rfl rfl Tryd.runUnderlying23 (p:=pm) (k:=nm) (m:=cm) (ev rfl rfl) ?_)
  refine wl rfl (obin (u:=.int .i64 (nm:Int)) (v:=.int .i64 24) (z:=.bool false) rfl rfl (ev rfl rfl) evc (bin_gtr (decide_eq_false (by omega))) ?_)
  refine wnil (thenN ?_)
  refine wF (ev rfl rfl) ?_
  refine wskip (thenN (wseq (wreg (wl rfl (oassign (v:=.int .i64 0) rfl rfl evc ?_)))))
  refine wnil (thenN ?_)
  refine wleave ?_
  refine wret1 Tryd.results10 (tellT (v:=.int .i64 0) rfl rfl) ?_
  exact ⟨_,_,rfl,isI,hS.new0⟩
theorem wqfits {pm:Option Addr} {nm cm p:Nat} {M:List (List Nat)} {w:World} (hm:MS w pm nm M) (hp2:p < 4294967296) {e:Nat} (hb1:nm ≤ 2097152) (hc:HFa p M e):Calls Tryd.prog 10 #[.slice pm nm cm,.int .u32 ((p:Nat):Int)] w (Ret (Is (.int .i64 ((e:Nat):Int))) w):=by
  cases hc with
  | prime h => exact wqfits40 hm hp2 hb1 h
  | shape h h2 => exact wqfits2 hm hp2 hb1 h h2
  | square h h2 h3 => exact wqfits3 hm hp2 hb1 h h2 h3
  | big h h2 h3 h4 h5 => exact wqfits4 hm hp2 hb1 h h2 h3 h4 h5
  | ok h h2 h3 h4 h5 => exact wqfits0 hm hp2 hb1 h h2 h3 h4 h5
theorem wqis1 {pm:Option Addr} {nm cm p:Nat} {M:List (List Nat)} {w:World} (hm:MS w pm nm M) (hp0:0 < p) (hp2:p < 4294967296) (hb1:nm ≤ 2097152) (hb2:∀ r ∈ M,r.length = nm) (hz:∀ i k,k + 1 < i → i < nm → nd (M.getD i []) k % p = 0) :
  Calls Tryd.prog 13 #[.slice pm nm cm,.int .u32 ((p:Nat):Int)] w (Ret (Is (.bool true)) w):=by
 have hml:=hm.1
 have hS:=Sep.init w
 refine went Tryd.func13 rfl (n:=29) rfl rfl ?_
 refine wseq (wreg (wl rfl (oassign (v:=.bool false) rfl rfl evc ?_)))
 refine wnil (thenN (wseq (wseq (wreg (wl rfl (omove (v:=.slice pm nm cm) rfl rfl (ev rfl rfl) ?_))))))
 refine wl rfl (olen rfl rfl rfl Tryd.runUnderlying23 (p:=pm) (k:=nm) (m:=cm) (ev rfl rfl) ?_)
 refine wl rfl (omove (v:=.int .i64 0) rfl rfl evc ?_)
 refine wnil (thenN (wblock ?_))
 refine wloop (σ := Nat) (fun i a9 w' => ∃ (fb:Nat → Value),a9 = act 29 (sets fb [(0,.slice pm nm cm),(1,.int .u32 (p:Int)),(8,.int .i64 (nm:Int)),(9,.int .i64 (i:Int))]) ∧ Sep w [] w' ∧ (i ≤ nm)) (fun i => nm - i) (0) ⟨_,act_sets (l:=[(0,.slice pm nm cm),(1,.int .u32 (p:Int)),(8,.int .i64 (nm:Int)),(9,.int .i64 0)]) ⟨rfl,rfl,rfl,rfl,trivial⟩,hS,Nat.zero_le _⟩ ?_
 clear hS; rintro i _ w1 ⟨fb,rfl,hS,hi⟩
 refine wseq (wreg ?_)
 by_cases hli:i < nm
 ·
  refine wl rfl (obin (u:=.int .i64 (i:Int)) (v:=.int .i64 (nm:Int)) (z:=.bool true) rfl rfl (ev rfl rfl) (ev rfl rfl) (bin_lss (decide_eq_true (by omega))) ?_)
  refine wnil (thenN (wseq ?_))
  refine wT (ev rfl rfl) ?_
  refine wskip (thenN (wseq (wblock (wseq (wreg (wl rfl (omove (v:=.int .i64 (i:Int)) rfl rfl (ev rfl rfl) ?_)))))))
  refine wl rfl (oassign (v:=.int .i64 (i:Int)) rfl rfl (ev rfl rfl) ?_)
  refine wnil (thenN (wseq (wreg (wl rfl (oassign (v:=.int .i64 0) rfl rfl evc ?_)))))
  refine wnil (thenN (wblock ?_))
  obtain ⟨xr,hxr⟩:∃ r,(M)[i]? = some r:=⟨_,List.getElem?_eq_getElem (by have:=hm.1; omega)⟩
  obtain ⟨br,ofr,pr,cr,hpr,hcr,hsr⟩:=hm.2.2 i _ hxr
  have hrl:=hb2 xr (List.mem_of_getElem? hxr)
  refine wloop (σ := Nat) (fun k a9 w' => ∃ (fb:Nat → Value),a9 = act 29 (sets fb [(0,.slice pm nm cm),(1,.int .u32 (p:Int)),(5,.int .i64 (i:Int)),(6,.int .i64 (k:Int)),(8,.int .i64 (nm:Int)),(9,.int .i64 (i:Int))]) ∧ Sep w [] w' ∧ (k ≤ i)) (fun k => i - k) (0) ⟨_,act_sets (l:=[(0,.slice pm nm cm),(1,.int .u32 (p:Int)),(5,.int .i64 (i:Int)),(6,.int .i64 0),(8,.int .i64 (nm:Int)),(9,.int .i64 (i:Int))]) ⟨rfl,rfl,rfl,rfl,rfl,rfl,trivial⟩,hS,Nat.zero_le _⟩ ?_
  clear hS; rintro k _ w2 ⟨fb,rfl,hS,hk⟩
  refine wseq (wseq (wreg (wl rfl (omove (v:=.int .i64 (k:Int)) rfl rfl (ev rfl rfl) ?_))))
  refine wl rfl (obin (u:=.int .i64 (k:Int)) (v:=.int .i64 1) (z:=.int .i64 (((k + 1:Nat):Int))) rfl rfl (ev rfl rfl) evc (bin_add (wrap_i64 (by omega) (by omega))) ?_)
  refine wl rfl (omove (v:=.int .i64 (i:Int)) rfl rfl (ev rfl rfl) ?_)
  by_cases hlk:k + 1 < i
  ·
   refine wl rfl (obin (u:=.int .i64 (((k + 1:Nat):Int))) (v:=.int .i64 (i:Int)) (z:=.bool true) rfl rfl (ev rfl rfl) (ev rfl rfl) (bin_lss (decide_eq_true (by omega))) ?_)
   refine wnil (thenN ?_)
   refine wT (ev rfl rfl) ?_
   refine wskip (thenN (wseq (wblock (wseq (wreg (wl rfl (omove (v:=.slice pm nm cm) rfl rfl (ev rfl rfl) ?_)))))))
   refine wl rfl (omove (v:=.int .i64 (i:Int)) rfl rfl (ev rfl rfl) ?_)
   obtain ⟨bce,oce,hpce,hcce⟩:=hsr.el (show k < xr.length by omega)
   have hzz:nd xr k % p = 0:=by have:=hz i k hlk hli; rwa [getD_get hxr] at this
   have hl9:=hsr.lim1 k
   refine wl rfl (oindex (p:=pm) (g:=br) (off:=ofr) (m:=nm) (k:=i) (j:=(ofr + i * 1)) rfl rfl Tryd.runUnderlying23 Tryd.sizeOf29 (ev rfl rfl) (hpr) (ev rfl rfl) (by omega) rfl ?_)
   refine wl rfl (oloadc (v:=.slice pr xr.length cr) (show One Tryd.prog 29 from ⟨Tryd.isAgg29,Tryd.sizeOf29⟩) rfl rfl (ev (v:=.pointer (some ⟨br,(ofr + i * 1),none⟩)) rfl rfl) (hS.cellAt (hcr 0 _ rfl)) ?_)
   refine wl rfl (omove (v:=.int .i64 (k:Int)) rfl rfl (ev rfl rfl) ?_)
   refine wl rfl (oindex (p:=pr) (g:=bce) (off:=oce) (m:=xr.length) (k:=k) (j:=(oce + k * 1)) rfl rfl Tryd.runUnderlying29 Tryd.sizeOf24 (ev rfl rfl) (hpce) (ev rfl rfl) (by omega) rfl ?_)
   refine wl rfl (oloadc (v:=.int .u32 (((nd xr k:Nat):Int))) one32 rfl rfl (ev (v:=.pointer (some ⟨bce,(oce + k * 1),none⟩)) rfl rfl) (hS.cellAt (hcce 0 _ rfl)) ?_)
   refine wl rfl (omove (v:=.int .u32 (p:Int)) rfl rfl (ev rfl rfl) ?_)
   refine wl rfl (obin (u:=.int .u32 (((nd xr k:Nat):Int))) (v:=.int .u32 (p:Int)) (z:=.int .u32 (((nd xr k % p:Nat):Int))) rfl rfl (ev rfl rfl) (ev rfl rfl) (bin_rem (by omega) rfl) ?_)
   refine wl rfl (obin (u:=.int .u32 (((nd xr k % p:Nat):Int))) (v:=.int .u32 0) (z:=.bool false) rfl rfl (ev rfl rfl) evc (bin_neq (neF (by omega))) ?_)
   refine wnil (thenN ?_)
   refine wF (ev rfl rfl) ?_
   refine wskip (blkN (thenN (wreg (wl rfl (omove (v:=.int .i64 (k:Int)) rfl rfl (ev rfl rfl) ?_)))))
   refine wl rfl (obin (u:=.int .i64 (k:Int)) (v:=.int .i64 1) (z:=.int .i64 (((k + 1:Nat):Int))) rfl rfl (ev rfl rfl) evc (bin_add (wrap_i64 (by omega) (by omega))) ?_)
   refine wl rfl (oassign (v:=.int .i64 (((k + 1:Nat):Int))) rfl rfl (ev rfl rfl) ?_)
   refine wnil (thenN ?_)
   exact ⟨(k + 1),⟨_,act_sets (l:=[(0,.slice pm nm cm),(1,.int .u32 (p:Int)),(5,.int .i64 (i:Int)),(6,.int .i64 (((k + 1:Nat):Int))),(8,.int .i64 (nm:Int)),(9,.int .i64 (i:Int))]) ⟨rfl,rfl,rfl,rfl,rfl,rfl,trivial⟩,hS.pick [] (by decide) rfl,by omega⟩,by omega⟩
  ·
   refine wl rfl (obin (u:=.int .i64 (((k + 1:Nat):Int))) (v:=.int .i64 (i:Int)) (z:=.bool false) rfl rfl (ev rfl rfl) (ev rfl rfl) (bin_lss (decide_eq_false (by omega))) ?_)
   refine wnil (thenN ?_)
   refine wF (ev rfl rfl) ?_
   refine wexit ?_
   refine thenE ?_
   refine thenE ?_
   refine blkE ?_
   refine blkN (thenN (wreg (wl rfl (obin (u:=.int .i64 (i:Int)) (v:=.int .i64 1) (z:=.int .i64 (((i + 1:Nat):Int))) rfl rfl (ev rfl rfl) evc (bin_add (wrap_i64 (by omega) (by omega))) ?_))))
   refine wl rfl (omove (v:=.int .i64 (((i + 1:Nat):Int))) rfl rfl (ev rfl rfl) ?_)
   refine wnil (thenN ?_)
   exact ⟨(i + 1),⟨_,act_sets (l:=[(0,.slice pm nm cm),(1,.int .u32 (p:Int)),(8,.int .i64 (nm:Int)),(9,.int .i64 (((i + 1:Nat):Int)))]) ⟨rfl,rfl,rfl,rfl,trivial⟩,hS.pick [] (by decide) rfl,by omega⟩,by omega⟩
 ·
  refine wl rfl (obin (u:=.int .i64 (i:Int)) (v:=.int .i64 (nm:Int)) (z:=.bool false) rfl rfl (ev rfl rfl) (ev rfl rfl) (bin_lss (decide_eq_false (by omega))) ?_)
  refine wnil (thenN (wseq ?_))
  refine wF (ev rfl rfl) ?_
  refine wexit ?_
  refine thenE ?_
  refine thenE ?_
  refine blkE ?_
  refine thenN (wseq (wreg (wl rfl (oassign (v:=.bool true) rfl rfl evc ?_))))
  refine wnil (thenN ?_)
  refine wleave ?_
  refine wret1 Tryd.results13 (tellT (v:=.bool true) rfl rfl) ?_
  exact ⟨_,_,rfl,isI,hS.new0⟩
end Go.Proofs.YtcfcdbeemhjhgaaDoor
/-
  What HessReduces asks of the turned matrix and its transforms,plainly.
-/
namespace Go.Proofs.YtcfcdbeemhjhgaaDoor
open Go.RowKit
theorem mat_ext {p n:Nat} {A B:List (List Nat)} (hA:Shp p n A) (hB:Shp p n B) (ha:A.length = n) (hb:B.length = n) (h:∀ i k,i < n → k < n → en A i k = en B i k):A = B:=by
 apply List.ext_getElem?
 intro i
 by_cases hi:i < n
 ·rw [get_getD (by omega),get_getD (by omega)]
  congr 1
  apply nd_ext (by rw [(hA.at (by omega)).1,(hB.at (by omega)).1])
  intro k hk
  rw [(hA.at (by omega)).1] at hk
  exact Int.ofNat.inj (h i k hi hk)
 ·rw [List.getElem?_eq_none (by omega),List.getElem?_eq_none (by omega)]
section
variable {p n:Nat} {M:List (List Nat)} {s:HS}
theorem one_get (h:HInv p n (en M) s) (hok:HOk p n s) (hp:1 < p) {i k:Nat} (hi:i < n) (hk:k < n):nd ((mulH p s.S s.R n).getD i []) k = if i = k then 1 else 0:=by
  have h1:=(mulH_em (p:=p) (A:=s.S) (B:=s.R) (by rw [hok.sl]; exact hi) hk).trans (h.one i k hi hk)
  exact Em.eq ((mulH_shp (by omega)).nd (by omega) i k) (by split <;> omega) h1
theorem sim_eq (h:HInv p n (en M) s) (hok:HOk p n s) (hp:0 < p):mulH p (mulH p s.R M n) s.S n = s.H:=by
  refine mat_ext (p:=p) (mulH_shp hp) hok.hs (by rw [mulH_len,mulH_len,hok.rl]) hok.hl fun i k hi hk => ?_
  have h1:=mulH_em (p:=p) (A:=mulH p s.R M n) (B:=s.S) (by rw [mulH_len,hok.rl]; exact hi) hk
  have h2:Em p (mm n (en (mulH p s.R M n)) (en s.S) i k) (mm n (mm n (en s.R) (en M)) (en s.S) i k):=mm_em (fun j hj => mulH_em (by rw [hok.rl]; exact hi) hj) fun j _ => Em.rf _
  have h3:=h1.trans (h2.trans (h.sim i k hi hk))
  show ((nd _ k:Nat):Int) = ((nd _ k:Nat):Int)
  rw [Em.eq ((mulH_shp hp).nd hp i k) (hok.hs.nd hp i k) h3]
theorem shp_rect {X:List (List Nat)} (h:Shp p n X) (hl:X.length = n) (h0:n ≠ 0):RectM X ∧ X.length = colsM X:=by
  have h1:colsM X = n:=(h.at (i:=0) (by omega)).1
  exact ⟨fun r hr => by rw [h1]; exact (h r hr).1,by omega⟩
theorem shp_ok {X:List (List Nat)} (hp:MR.Pr p) (h:Shp p n X) (hl:X.length = n) (h0:n ≠ 0) (hb:n ≤ 24):HFa p X 0:=by
  obtain ⟨h1,h2⟩:=shp_rect h hl h0
  exact .ok hp h1 (by omega) h2 (by omega)
theorem shp_small {X:List (List Nat)} (h:Shp p n X) (hb:n ≤ 24):n ≤ 2097152 ∧ ∀ r ∈ X,r.length ≤ 1048576:=⟨by omega,fun r hr => by rw [(h r hr).1]; omega⟩
theorem hz_below (hok:HOk p n s) (hz:Hz n (n - 2) s.H):∀ i k,k + 1 < i → i < n → nd (s.H.getD i []) k % p = 0:=fun i k h1 h2 => by
  rw [hz k i (by omega) h1 h2,Nat.zero_mod]
theorem Hz.redk {p n:Nat} {M:List (List Nat)} (hp:MR.Pr p) (hr:RectM M) (hl:M.length = n) (hq:M.length = colsM M) (h0:n ≠ 0):Hz n (n - 2) (HS.red p n M (n - 2)).H:=Hz.red hp hr hl hq (n - 1) (by omega)
theorem HInv.redk {p n:Nat} {M:List (List Nat)} (hp:1 < p) (hr:RectM M) (hl:M.length = n) (hq:M.length = colsM M) (h0:n ≠ 0):HInv p n (en M) (HS.red p n M (n - 2)):=HInv.red hp hr hl hq (n - 1) (by omega)
end
end Go.Proofs.YtcfcdbeemhjhgaaDoor
/-
  Matrices that are small enough.
-/
namespace Go.Proofs.YtcfcdbeemhjhgaaDoor
open Go.RowKit
def SmallM (M:List (List Nat)):Prop:=M.length ≤ 2097152 ∧ ∀ r ∈ M,r.length ≤ 1048576
end Go.Proofs.YtcfcdbeemhjhgaaDoor
/-
  What is appended: an empty slice; rows to rows.
-/
namespace Go.Proofs.YtcfcdbeemhjhgaaDoor
open Go.RowKit
section
variable {P:Program} {o:Oper} {n:Nat} {f:Nat → Value} {w w0:World} {R:List Res} {K:Act → World → Prop} {Q':Exit → Act → World → Prop} {d:Nat}
theorem run_append_zero {t ty e:TypeId} {i:TypeInfo} (ht:P.underlying t = some (.slice e)) (hi:P.info? e = some i) {p q:Option Addr} {m c c2:Nat} (hle:m ≤ c) :
  (Builtin.append_ #[t,t] ty #[.slice p m c,.slice q 0 c2]).run P w = .ok (.slice p m c) w:=by
 have hf:(Builtin.firstCells i.size 0 (.slice q 0 c2)).run P w = .ok #[] w:=by
  cases q with
  | none => rfl
  | some a => exact run_firstCells_some (P:=P) w i.size 0 a 0 c2 [] (by simp) (by simp)
 cases p <;> simp [Builtin.append_,run_underlying ht,sizeOf,typeInfo,hi,Builtin.lenOf,hle,hf,storeCells]
theorem oappendOwn {t:TypeId} {x y:Operand} {g m c2:Nat} {q:Option Addr} {xs:List Nat} (hS:Sep w0 (.blk g [] 24 :: R) w) (hop:o.op = .call { callee:=.builtin .append,args:=#[x,y],argTypes:=#[t,t] }) (ho:o.dst = some d) (ht:P.underlying t = some (.slice 24)) (hi:(P.info? 24).map (fun i => (i.zero,i.size,i.bytes)) = some (some (.int .u32 0),1,4))
  (hx:(act n f).eval x = .slice (some ⟨g,0,none⟩) 0 0) (hy:(act n f).eval y = .slice q m c2) (hs:Sl w q m c2 xs) (hm:m ≤ 1073741824)
  (hK:∀ p' c' w',Sep w0 (.rowm p' m c' xs :: R) w' → K (act n (upd f d (.slice p' m c'))) w'):OW P o (act n f) w K Q':=by
 rcases Nat.eq_zero_or_pos m with h0 | h0
 ·subst h0
  obtain rfl:xs = []:=List.eq_nil_of_length_eq_zero hs.len
  rcases hi':P.info? 24 with _ | i
  ·rw [hi'] at hi; cases hi
  have hS':=hS.ofBlk (sz:=1) (m:=0) (cap:=0) (Nat.le_refl _) (Nat.zero_le _) (by simp)
  have h1:Sep w0 (.rowm (some ⟨g,0,none⟩) 0 0 [] :: R) w:=Sep.ownRow (xs:=[]) (by simpa using hS') rfl (fun i hi => by simp at hi)
  refine ⟨?_⟩
  have:=hK _ _ _ h1
  unfold Oper.wp execOp
  simp only [hop,resolve,invoke,builtin,Sem.run_bind,Sem.run_pure,Result.andThen_ok,List.map_toArray,List.map_cons,List.map_nil,hx,hy,run_append_zero ht hi' (Nat.le_refl _)]
  show K ((act n f).put o.dst _) w
  rw [ho,act_put]
  exact this
 ·obtain ⟨b,off,rfl,_⟩:=hs.cell 0 h0
  refine oappend0 (z:=.int .u32 0) (sz:=1) (by':=4) (xs.map fun x:Nat => Value.int .u32 (x:Int)) hS hop ho ht hi rfl (by decide) hx hy (by rw [List.length_map,hs.len,Nat.mul_one]) (fun j u hu => ?_) (fun u hu => by obtain ⟨x,_,rfl⟩:=List.mem_map.1 hu; rfl) (by omega) (by omega) fun p' c' w' h => hK p' c' w' (h.ownRow hs.len hs.lims)
  have hj:j < m:=by have:=(List.getElem?_eq_some_iff.1 hu).1; rw [List.length_map,hs.len] at this; exact this
  obtain ⟨b',off',hp,hc⟩:=hs.cell j hj
  simp only [Option.some.injEq,Addr.mk.injEq,and_true] at hp
  obtain ⟨rfl,rfl⟩:=hp
  rw [Addr.add_mid,hc]
  rw [List.getElem?_map,List.getElem?_eq_getElem (by rw [hs.len]; exact hj)] at hu
  rw [nd_get (by rw [hs.len]; exact hj)]
  exact hu
theorem Sep.tl {r:Res} (h:Sep w0 (r :: R) w):Sep w0 R w:=⟨h.below,fun s hs => h.holds s (List.mem_cons_of_mem _ hs),fun s hs => h.low s (List.mem_cons_of_mem _ hs),(List.pairwise_cons.1 h.apart).2⟩
end
end Go.Proofs.YtcfcdbeemhjhgaaDoor
/-
  The law's copied and lives.
-/
namespace Go.Proofs.YtcfcdbeemhjhgaaDoor
open Go.RowKit
theorem fill1_3g {u a b c:Value} (hu:u.cells = #[u]) (ha:a.cells = #[a]) (hb:b.cells = #[b]) (hc:c.cells = #[c]):Instr.fill (fun i => some (i * 1,1)) ((Array.range (3 * 1)).map (u.cells[· % u.cells.size]!)) #[(0,a),(1,b),(2,c)].toList = some [a,b,c].toArray:=by
 rw [hu]
 simp [Instr.fill,ha,hb,hc,Array.range]
 apply Array.ext
 ·simp
 ·intro i h1 h2
  have h3:i = 0 ∨ i = 1 ∨ i = 2:=by simp at h2; omega
  rcases h3 with rfl | rfl | rfl <;> simp
theorem fill1_2g {u a b:Value} (hu:u.cells = #[u]) (ha:a.cells = #[a]) (hb:b.cells = #[b]):Instr.fill (fun i => some (i * 1,1)) ((Array.range (2 * 1)).map (u.cells[· % u.cells.size]!)) #[(0,a),(1,b)].toList = some [a,b].toArray:=by
 rw [hu]
 simp [Instr.fill,ha,hb,Array.range]
 apply Array.ext
 ·simp
 ·intro i h1 h2
  have h3:i = 0 ∨ i = 1:=by simp at h2; omega
  rcases h3 with rfl | rfl <;> simp
theorem Sl.blk3H {w:World} {g:Nat} {t:TypeId} {a b c:Nat} (h:w.heap[g]? = some (.cells [.int .u32 ((a:Nat):Int),.int .u32 ((b:Nat):Int),.int .u32 ((c:Nat):Int)].toArray t)) (ha:a < 4294967296:=by decide) (hb:b < 4294967296:=by decide) (hc:c < 4294967296:=by decide):Sl w (some ⟨g,0,none⟩) 3 3 [a,b,c]:=by
 refine ⟨rfl,Nat.le_refl _,by simp [maxLen],fun i hi => ?_,(fun h => by cases h),fun i hi => ⟨g,0,rfl,?_⟩⟩
 ·match i,hi with
  | 0,_ => exact ha
  | 1,_ => exact hb
  | 2,_ => exact hc
 ·rw [Nat.zero_add]
  match i,hi with
  | 0,_ => exact (blk_cell h 0).trans rfl
  | 1,_ => exact (blk_cell h 1).trans rfl
  | 2,_ => exact (blk_cell h 2).trans rfl
theorem Sl.blk2H {w:World} {g a b:Nat} {t:TypeId} (h:w.heap[g]? = some (.cells [.int .u32 ((a:Nat):Int),.int .u32 ((b:Nat):Int)].toArray t)) (ha:a < 4294967296) (hb:b < 4294967296):Sl w (some ⟨g,0,none⟩) 2 2 [a,b]:=by
 refine ⟨rfl,Nat.le_refl _,by simp [maxLen],fun i hi => ?_,(fun h => by cases h),fun i hi => ⟨g,0,rfl,?_⟩⟩
 ·match i,hi with
  | 0,_ => exact ha
  | 1,_ => exact hb
 ·rw [Nat.zero_add]
  match i,hi with
  | 0,_ => exact (blk_cell h 0).trans rfl
  | 1,_ => exact (blk_cell h 1).trans rfl
theorem MS.lit2H {w:World} {g g1 g2 a b c d:Nat} {t t1 t2:TypeId} (h:w.heap[g]? = some (.cells [.slice (some ⟨g1,0,none⟩) 2 2,.slice (some ⟨g2,0,none⟩) 2 2].toArray t)) (h1:w.heap[g1]? = some (.cells [.int .u32 ((a:Nat):Int),.int .u32 ((b:Nat):Int)].toArray t1)) (h2:w.heap[g2]? = some (.cells [.int .u32 ((c:Nat):Int),.int .u32 ((d:Nat):Int)].toArray t2))
  (ha:a < 4294967296) (hb:b < 4294967296) (hc:c < 4294967296) (hd:d < 4294967296):MS w (some ⟨g,0,none⟩) 2 [[a,b],[c,d]]:=MS.of2 h (Sl.blk2H h1 ha hb) (Sl.blk2H h2 hc hd)
theorem pr7H:MR.Pr 7:=⟨by decide,fun d hd => by
  have h1:=Nat.le_of_dvd (by decide) hd
  have:d ≠ 0:=fun e => by subst e; exact absurd hd (by decide)
  have:d ≠ 2:=fun e => by subst e; exact absurd hd (by decide)
  have:d ≠ 3:=fun e => by subst e; exact absurd hd (by decide)
  have:d ≠ 4:=fun e => by subst e; exact absurd hd (by decide)
  have:d ≠ 5:=fun e => by subst e; exact absurd hd (by decide)
  have:d ≠ 6:=fun e => by subst e; exact absurd hd (by decide)
  omega⟩
theorem npr4H:¬ MR.Pr 4:=fun h => by rcases h.2 2 (by decide) with h | h <;> cases h
theorem whChar_lives {p:Option Addr} {c:Nat} {w:World} (ht:Tb w) (hm:MS w p 2 [[1,2],[3,4]]):Calls Tryd.prog 9 #[.slice p 2 c,.int .u32 7] w (Ret (PEt [5,2,1] 0) w):=by
  have h:=whChar (cm:=c) (p:=7) ht hm (by decide) (by decide) (fun r hr => by simp at hr; rcases hr with rfl | rfl <;> simp) pr7H (fun r hr => by simp at hr; rcases hr with rfl | rfl <;> rfl) (by decide) (by decide) (by decide)
  rwa [show charL 7 [[1,2],[3,4]] = [5,2,1] by decide] at h
theorem whIsE {pm:Option Addr} {nm cm p:Nat} {M:List (List Nat)} {w:World} (ht:Tb w) (hm:MS w pm nm M) (hp2:p < 4294967296) (hb1:nm ≤ 2097152) (hb2:∀ r ∈ M,r.length ≤ 1048576) {e:Nat} (hc:HFa p M e) (he:e ≠ 0) :
  Calls Tryd.prog 8 #[.slice pm nm cm,.int .u32 ((p:Nat):Int)] w (Ret (Is (.tuple #[.bool false,.int .i64 ((e:Nat):Int)])) w):=by
 have hS:=Sep.init w
 refine went Tryd.func8 rfl (n:=38) rfl rfl ?_
 refine wseq (wreg (wl rfl (oassign (v:=.bool false) rfl rfl evc ?_)))
 refine wl rfl (oassign (v:=.int .i64 0) rfl rfl evc ?_)
 refine wnil (thenN (wseq (wseq (wreg (wl rfl (omove (v:=.slice pm nm cm) rfl rfl (ev rfl rfl) ?_))))))
 refine wl rfl (omove (v:=.int .u32 (p:Int)) rfl rfl (ev rfl rfl) ?_)
 refine wl rfl (ocall rfl rfl Tryd.call22 rfl (whfaults (ht.at hS) (hm.at hS) hp2 hb1 hb2 (hc)) (args2 (ev rfl rfl) (ev rfl rfl)) ?_)
 rintro _ w1 ⟨_,_,rfl,⟨rfl,rfl⟩,hN⟩
 refine ⟨_,rfl,?_⟩
 replace hS:=hS.news hN; clear hN
 refine wl rfl (oassign (v:=.int .i64 (e:Int)) rfl rfl (ev rfl rfl) ?_)
 refine wnil (thenN (wseq (wreg (wl rfl (omove (v:=.int .i64 (e:Int)) rfl rfl (ev rfl rfl) ?_)))))
 refine wl rfl (obin (u:=.int .i64 (e:Int)) (v:=.int .i64 0) (z:=.bool true) rfl rfl (ev rfl rfl) evc (bin_neq (neT (by omega))) ?_)
 refine wnil (thenN ?_)
 refine wT (ev rfl rfl) ?_
 refine wseq (wreg (wl rfl (omove (v:=.int .i64 (e:Int)) rfl rfl (ev rfl rfl) ?_)))
 refine wl rfl (oassign (v:=.bool false) rfl rfl evc ?_)
 refine wl rfl (oassign (v:=.int .i64 (e:Int)) rfl rfl (ev rfl rfl) ?_)
 refine wnil (thenN ?_)
 refine wleave ?_
 refine thenR ?_
 refine wret2 Tryd.results8 (tellT (v:=.bool false) rfl rfl) (tellT (v:=.int .i64 (e:Int)) rfl rfl) ?_
 exact ⟨_,_,rfl,isI,hS.new0⟩
theorem whIs_lives {w:World} (ht:Tb w):Calls Tryd.prog 8 #[.slice none 0 0,.int .u32 4] w (Ret (Is (.tuple #[.bool false,.int .i64 40])) w) :=
  whIsE (p:=4) (e:=40) ht (MS.nil0 w) (by decide) (by decide) (fun r hr => by cases hr) (.prime npr4H) (by decide)
theorem wllives {w:World} (ht:Tb w) :
  Calls Tryd.prog 12 #[] w (Ret (Is (.bool true)) w):=by
 have hS:=Sep.init w
 refine went Tryd.func12 rfl (n:=31) rfl rfl ?_
 refine wseq (wreg (wl rfl (oassign (v:=.bool false) rfl rfl evc ?_)))
 refine wnil (thenN (wseq (wreg (wl rfl (obslice (ps:=#[(0,.int .u32 1),(1,.int .u32 2)]) (z:=.int .u32 0) [.int .u32 1,.int .u32 2] hS rfl rfl Tryd.runUnderlying29 Tryd.sizeOf24 Tryd.zeroValue24 (parts2 (evc (v:=.int .u32 1)) (evc (v:=.int .u32 2))) rfl (by decide) (fill1_2g rfl rfl rfl) ?_)))))
 clear hS; intro g1 w2 hS
 refine wl rfl (obslice (ps:=#[(0,.int .u32 3),(1,.int .u32 4)]) (z:=.int .u32 0) [.int .u32 3,.int .u32 4] hS rfl rfl Tryd.runUnderlying29 Tryd.sizeOf24 Tryd.zeroValue24 (parts2 (evc (v:=.int .u32 3)) (evc (v:=.int .u32 4))) rfl (by decide) (fill1_2g rfl rfl rfl) ?_)
 clear hS; intro g3 w4 hS
 refine wl rfl (obslice (ps:=#[(0,.slice (some ⟨g1,0,none⟩) 2 2),(1,.slice (some ⟨g3,0,none⟩) 2 2)]) (z:=.slice none 0 0) [.slice (some ⟨g1,0,none⟩) 2 2,.slice (some ⟨g3,0,none⟩) 2 2] hS rfl rfl Tryd.runUnderlying23 Tryd.sizeOf29 Tryd.zeroValue29 (parts2 (ev (v:=.slice (some ⟨g1,0,none⟩) 2 2) rfl rfl) (ev (v:=.slice (some ⟨g3,0,none⟩) 2 2) rfl rfl)) rfl (by decide) (fill1_2g rfl rfl rfl) ?_)
 clear hS; intro g5 w6 hS
 refine wl rfl (ocall rfl rfl Tryd.call9 rfl (whChar_lives (ht.at hS) (MS.lit2H (hS.blkAt 0 rfl) (hS.blkAt 2 rfl) (hS.blkAt 1 rfl) (by decide) (by decide) (by decide) (by decide))) (args2 (ev rfl rfl) evc) ?_)
 rintro _ w7 ⟨_,_,rfl,⟨pc,cc,rfl,rfl⟩,hN⟩
 refine ⟨_,rfl,?_⟩
 replace hS:=hS.news hN; clear hN
 refine wl rfl (omove (v:=.tuple #[.slice pc (([5,2,1]).length) cc,.int .i64 0]) rfl rfl (ev rfl rfl) ?_)
 refine wl rfl (oextract (vs:=[.slice pc (([5,2,1]).length) cc,.int .i64 0]) (v:=.slice pc (([5,2,1]).length) cc) rfl rfl (ev rfl rfl) rfl ?_)
 refine wl rfl (oextract (vs:=[.slice pc (([5,2,1]).length) cc,.int .i64 0]) (v:=.int .i64 0) rfl rfl (ev rfl rfl) rfl ?_)
 refine wl rfl (oassign (v:=.slice pc (([5,2,1]).length) cc) rfl rfl (ev rfl rfl) ?_)
 refine wl rfl (oassign (v:=.int .i64 0) rfl rfl (ev rfl rfl) ?_)
 refine wnil (thenN (wseq (wreg (wl rfl (ocall rfl rfl Tryd.call8 rfl (whIs_lives (ht.at hS)) (args2 evc evc) ?_)))))
 rintro _ w8 ⟨_,_,rfl,⟨rfl,rfl⟩,hN⟩
 refine ⟨_,rfl,?_⟩
 replace hS:=hS.news hN; clear hN
 refine wl rfl (omove (v:=.tuple #[.bool false,.int .i64 40]) rfl rfl (ev rfl rfl) ?_)
 refine wl rfl (oextract (vs:=[.bool false,.int .i64 40]) (v:=.bool false) rfl rfl (ev rfl rfl) rfl ?_)
 refine wl rfl (oextract (vs:=[.bool false,.int .i64 40]) (v:=.int .i64 40) rfl rfl (ev rfl rfl) rfl ?_)
 refine wl rfl (oassign (v:=.bool false) rfl rfl (ev rfl rfl) ?_)
 refine wl rfl (oassign (v:=.int .i64 40) rfl rfl (ev rfl rfl) ?_)
 refine wnil (thenN (wseq (wreg (wl rfl (omove (v:=.int .i64 0) rfl rfl (ev rfl rfl) ?_)))))
 refine wl rfl (obin (u:=.int .i64 0) (v:=.int .i64 0) (z:=.bool true) rfl rfl (ev rfl rfl) evc (bin_eql (by decide)) ?_)
 refine wl rfl (omove (v:=.bool true) rfl rfl (ev rfl rfl) ?_)
 refine wlOn (e:=18) rfl rfl rfl rfl (omove (v:=.slice pc (([5,2,1]).length) cc) rfl rfl (ev rfl rfl) ?_)
 refine wlOn (e:=18) rfl rfl rfl rfl (obslice (ps:=#[(0,.int .u32 5),(1,.int .u32 2),(2,.int .u32 1)]) (z:=.int .u32 0) [.int .u32 5,.int .u32 2,.int .u32 1] hS rfl rfl Tryd.runUnderlying30 Tryd.sizeOf24 Tryd.zeroValue24 (parts3 (evc (v:=.int .u32 5)) (evc (v:=.int .u32 2)) (evc (v:=.int .u32 1))) rfl (by decide) (fill1_3g rfl rfl rfl rfl) ?_)
 clear hS; intro g9 w10 hS
 refine wlOn (e:=18) rfl rfl rfl rfl (ocall rfl rfl Tryd.call14 rfl (wqwords (hS.slo 1 rfl) (Sl.blk3H (hS.blkAt 0 rfl)) (by simp; try omega)) (args2 (ev rfl rfl) (ev rfl rfl)) ?_)
 rintro _ w11 ⟨_,_,rfl,⟨rfl,rfl⟩,hN⟩
 refine ⟨_,rfl,?_⟩
 replace hS:=hS.news hN; clear hN
 refine wl rfl (opick (b:=true) (v:=.bool true) rfl rfl (ev rfl rfl) (ev rfl rfl) ?_)
 refine wl rfl (omove (v:=.bool true) rfl rfl (ev rfl rfl) ?_)
 refine wlOn (e:=23) rfl rfl rfl rfl (omove (v:=.int .i64 40) rfl rfl (ev rfl rfl) ?_)
 refine wlOn (e:=23) rfl rfl rfl rfl (obin (u:=.int .i64 40) (v:=.int .i64 40) (z:=.bool true) rfl rfl (ev rfl rfl) evc (bin_eql (by decide)) ?_)
 refine wl rfl (opick (b:=true) (v:=.bool true) rfl rfl (ev rfl rfl) (ev rfl rfl) ?_)
 refine wl rfl (omove (v:=.bool true) rfl rfl (ev rfl rfl) ?_)
 refine wlOn (e:=27) rfl rfl rfl rfl (omove (v:=.int .i64 40) rfl rfl (ev rfl rfl) ?_)
 refine wlOn (e:=27) rfl rfl rfl rfl (obin (u:=.int .i64 40) (v:=.int .i64 40) (z:=.bool true) rfl rfl (ev rfl rfl) evc (bin_eql (by decide)) ?_)
 refine wl rfl (opick (b:=true) (v:=.bool true) rfl rfl (ev rfl rfl) (ev rfl rfl) ?_)
 refine wl rfl (oassign (v:=.bool true) rfl rfl (ev rfl rfl) ?_)
 refine wnil (thenN ?_)
 refine wleave ?_
 refine wret1 Tryd.results12 (tellT (v:=.bool true) rfl rfl) ?_
 exact ⟨_,_,rfl,isI,hS.new0⟩
theorem wlcopied {pm:Option Addr} {nm cm:Nat} {M:List (List Nat)} {w:World} (hm:MS w pm nm M) (hs:SmallM M) :
  Calls Tryd.prog 7 #[.slice pm nm cm] w (Ret (MMh nm M) w):=by
 have hml:=hm.1
 have hb1:=hs.1
 have hS:=Sep.init w
 refine went Tryd.func7 rfl (n:=20) rfl rfl ?_
 refine wseq (wreg (wl rfl (oassign (v:=.slice none 0 0) rfl rfl evc ?_)))
 refine wnil (thenN (wseq (wreg (wl rfl (oassign (v:=.slice none 0 0) rfl rfl evc ?_)))))
 refine wnil (thenN (wseq (wseq (wreg (wl rfl (omove (v:=.slice pm nm cm) rfl rfl (ev rfl rfl) ?_))))))
 refine wl rfl (olen rfl rfl rfl Tryd.runUnderlying23 (p:=pm) (k:=nm) (m:=cm) (ev rfl rfl) ?_)
 refine wl rfl (omove (v:=.int .i64 0) rfl rfl evc ?_)
 refine wnil (thenN (wblock ?_))
 replace hS:=hS.nilLst 29 1
 refine wloop (σ := Nat) (fun i a9 w' => ∃ (fb:Nat → Value) (Q:List Rw) (pX:Option Addr) (cX:Nat),a9 = act 20 (sets fb [(2,.slice none 0 0),(3,.slice pX i cX),(6,.slice pm nm cm),(7,.int .i64 (nm:Int)),(8,.int .i64 (i:Int))]) ∧ Sep w [.lst 29 1 pX i cX (mmE Q)] w' ∧ (i ≤ nm) ∧ (nums Q = M.take i)) (fun i => nm - i) (0) ⟨_,[],none,0,act_sets (l:=[(2,.slice none 0 0),(3,.slice none 0 0),(6,.slice pm nm cm),(7,.int .i64 (nm:Int)),(8,.int .i64 0)]) ⟨rfl,rfl,rfl,rfl,rfl,trivial⟩,hS,Nat.zero_le _,rfl⟩ ?_
 clear hS; rintro i _ w1 ⟨fb,Q,pX,cX,rfl,hS,hi,hQ⟩
 refine wseq (wreg ?_)
 by_cases hli:i < nm
 ·
  refine wl rfl (obin (u:=.int .i64 (i:Int)) (v:=.int .i64 (nm:Int)) (z:=.bool true) rfl rfl (ev rfl rfl) (ev rfl rfl) (bin_lss (decide_eq_true (by omega))) ?_)
  refine wnil (thenN (wseq ?_))
  refine wT (ev rfl rfl) ?_
  refine wskip (thenN (wseq (wblock (wseq (wreg ?_)))))
  obtain ⟨xr,hxr⟩:∃ r,(M)[i]? = some r:=⟨_,List.getElem?_eq_getElem (by have:=hm.1; omega)⟩
  obtain ⟨br,ofr,pr,cr,hpr,hcr,hsr⟩:=hm.2.2 i _ hxr
  have hrb:=hs.2 xr (List.mem_of_getElem? hxr)
  refine wl rfl (oindex (p:=pm) (g:=br) (off:=ofr) (m:=nm) (k:=i) (j:=(ofr + i * 1)) rfl rfl Tryd.runUnderlying23 Tryd.sizeOf29 (ev rfl rfl) (hpr) (ev rfl rfl) (by omega) rfl ?_)
  refine wl rfl (oloadc (v:=.slice pr xr.length cr) (show One Tryd.prog 29 from ⟨Tryd.isAgg29,Tryd.sizeOf29⟩) rfl rfl (ev (v:=.pointer (some ⟨br,(ofr + i * 1),none⟩)) rfl rfl) (hS.cellAt (hcr 0 _ rfl)) ?_)
  refine wl rfl (oassign (v:=.slice pr xr.length cr) rfl rfl (ev rfl rfl) ?_)
  refine wnil (thenN (wreg (wl rfl (omove (v:=.slice pX i cX) rfl rfl (ev rfl rfl) ?_))))
  refine wl rfl (obslice0 hS rfl rfl Tryd.runUnderlying29 Tryd.sizeOf24 ?_)
  clear hS; intro g2 w3 hS
  refine wl rfl (omove (v:=.slice pr xr.length cr) rfl rfl (ev rfl rfl) ?_)
  refine wl rfl (oappendOwn (g:=g2) (m:=xr.length) (c2:=cr) (q:=pr) (xs:=xr) hS rfl rfl Tryd.underlying29 infouint32 (ev (v:=.slice (some ⟨g2,0,none⟩) 0 0) rfl rfl) (ev (v:=.slice pr xr.length cr) rfl rfl) (hsr.below hS.below (Nat.le_refl _)) (by omega) ?_)
  clear hS; intro p5 c6 w4 hS
  refine wl rfl (obslice (ps:=#[(0,.slice p5 xr.length c6)]) (z:=.slice none 0 0) [.slice p5 xr.length c6] hS rfl rfl Tryd.runUnderlying23 Tryd.sizeOf29 Tryd.zeroValue29 (parts1 (ev (v:=.slice p5 xr.length c6) rfl rfl)) rfl (by decide) (fill1_1s rfl rfl) ?_)
  clear hS; intro g7 w8 hS
  obtain hS:=(show Sep w [.rowm p5 xr.length c6 xr,.lst 29 1 pX i cX (mmE Q),.blk g7 [.slice p5 xr.length c6] 29] w8 from hS.pick [1,2,0] (by decide) rfl)
  refine wl rfl (oappendL (p:=pX) (m:=i) (c:=cX) (g2:=g7) (c2:=1) (off:=0) [.slice p5 xr.length c6] [.rowm p5 xr.length c6 xr] hS rfl rfl Tryd.underlying23 infoRow rfl (by decide) (ev (v:=.slice pX i cX) rfl rfl) (ev (v:=.slice (some ⟨g7,0,none⟩) 1 1) rfl rfl) (fun j v hj => by rw [Nat.zero_add]; exact (blk_cell (hS.blkAt 2 rfl) j).trans hj) rfl rfl rfl (by omega) (by omega) ?_)
  clear hS; intro p10 c11 w9 hS
  refine wl rfl (oassign (v:=.slice p10 ((i + 1)) c11) rfl rfl (ev rfl rfl) ?_)
  refine wnil (blkN (thenN (wreg (wl rfl (obin (u:=.int .i64 (i:Int)) (v:=.int .i64 1) (z:=.int .i64 (((i + 1:Nat):Int))) rfl rfl (ev rfl rfl) evc (bin_add (wrap_i64 (by omega) (by omega))) ?_)))))
  refine wl rfl (omove (v:=.int .i64 (((i + 1:Nat):Int))) rfl rfl (ev rfl rfl) ?_)
  refine wnil (thenN ?_)
  rw [mmE_snoc (xs:=xr) (n:=xr.length) rfl] at hS
  exact ⟨(i + 1),⟨_,_,_,_,act_sets (l:=[(2,.slice none 0 0),(3,.slice p10 ((i + 1)) c11),(6,.slice pm nm cm),(7,.int .i64 (nm:Int)),(8,.int .i64 (((i + 1:Nat):Int)))]) ⟨rfl,rfl,rfl,rfl,rfl,trivial⟩,hS.pick [0] (by decide) rfl,by omega,by rw [nums_app,hQ,take_next hxr]⟩,by omega⟩
 ·
  refine wl rfl (obin (u:=.int .i64 (i:Int)) (v:=.int .i64 (nm:Int)) (z:=.bool false) rfl rfl (ev rfl rfl) (ev rfl rfl) (bin_lss (decide_eq_false (by omega))) ?_)
  refine wnil (thenN (wseq ?_))
  refine wF (ev rfl rfl) ?_
  refine wexit ?_
  refine thenE ?_
  refine thenE ?_
  refine blkE ?_
  refine thenN (wseq (wreg (wl rfl (omove (v:=.slice pX i cX) rfl rfl (ev rfl rfl) ?_))))
  refine wl rfl (oassign (v:=.slice pX i cX) rfl rfl (ev rfl rfl) ?_)
  refine wnil (thenN ?_)
  refine wleave ?_
  have hin:i = nm:=by omega
  refine wret1 Tryd.results7 (tellT (v:=.slice pX i cX) rfl rfl) ?_
  exact ⟨_,_,rfl,⟨pX,cX,Q,by rw [hQ,hin,List.take_of_length_le (by omega)],by rw [hin],by rw [hin]⟩,hS.newR 0 rfl rfl⟩
end Go.Proofs.YtcfcdbeemhjhgaaDoor
