/-
  Contracts and lemmas, joined in one text.
-/
import Derived.Test.YtnlnibngpeempaaGreatDoorMR
import Derived.Test.YtnlnibngpeempaaGreatDoorMr
import Derived.Test.YtnlnibngpeempaaGreatDoorTA
import Derived.Test.YtnlnibngpeempaaGreatDoorWB
import Derived.Test.YtnlnibngpeempaaGreatDoorRC
import Derived.Test.YtnlnibngpeempaaGreatDoorWA
set_option linter.unusedVariables false
set_option linter.unusedSimpArgs false
/-
  prime's functions and the document's (simileref04),walked.
-/
set_option maxRecDepth 100000
set_option maxHeartbeats 16000000
namespace Go.Proofs.YtnlnibngpeempaaGreatDoor
open Go.RowKit
theorem mul_u64 {a b:Nat} (ha:a < 4294967296) (hb:b < 4294967296):IntKind.u64.wrap (((a:Nat):Int) * ((b:Nat):Int)) = ((a * b:Nat):Int):=by
  have h:=mul_bd ha hb
  rw [← Int.natCast_mul]
  exact wU6 (by omega) (by omega)
theorem mod_lt32 {a n:Nat} (hn:0 < n) (hn2:n < 4294967296):a % n < 4294967296:=Nat.lt_trans (Nat.mod_lt _ hn) hn2
def Bases (w:World):Prop := ∀ (j v:Nat),bsL[j]? = some v → w.cell? ⟨0,j,none⟩ = some (.int .u32 (v:Int))
structure Tb (w:World):Prop where
  tab:Tab w
  bas:Bases w
theorem Tb.at {w w':World} {R:List Res} (h:Tb w) (hS:Sep w R w'):Tb w':=⟨h.tab.at hS,fun j v hj => tab_keep (w0:=w) hS (h.bas j v hj)⟩
theorem wtimes {a b n:Nat} {w:World} (ha:a < 4294967296) (hb:b < 4294967296) (hn:0 < n) (hn2:n < 4294967296) :
  Calls Tryz.prog 152 #[.int .u32 (a:Int),.int .u32 (b:Int),.int .u32 (n:Int)] w (Ret (Is (.int .u32 ((a * b % n:Nat):Int))) w):=by
 have hm:=mod_lt32 (a:=a * b) hn hn2
 have hS:=Sep.init w
 refine went Tryz.func152 rfl (n:=16) rfl rfl ?_
 refine wsr (wavc ?_)
 refine wn2 (wmv rfl rfl ?_)
 refine wl rfl (oCv (u:=.int .u32 (a:Int)) (v:=.int .u64 (a:Int)) rfl rfl (ev rfl rfl) (cvI Tryz.runUnderlying63 Tryz.runUnderlying71 (wU6 (by omega) (by omega))) ?_)
 refine wmv rfl rfl ?_
 refine wl rfl (oCv (u:=.int .u32 (b:Int)) (v:=.int .u64 (b:Int)) rfl rfl (ev rfl rfl) (cvI Tryz.runUnderlying63 Tryz.runUnderlying71 (wU6 (by omega) (by omega))) ?_)
 refine wbt (z:=.int .u64 ((a * b:Nat):Int)) rfl rfl rfl rfl (bin_mul (mul_u64 ha hb)) ?_
 refine wmv rfl rfl ?_
 refine wl rfl (oCv (u:=.int .u32 (n:Int)) (v:=.int .u64 (n:Int)) rfl rfl (ev rfl rfl) (cvI Tryz.runUnderlying63 Tryz.runUnderlying71 (wU6 (by omega) (by omega))) ?_)
 refine wbt (z:=.int .u64 ((a * b % n:Nat):Int)) rfl rfl rfl rfl (bin_rem (by omega) rfl) ?_
 refine wl rfl (oCv (u:=.int .u64 ((a * b % n:Nat):Int)) (v:=.int .u32 ((a * b % n:Nat):Int)) rfl rfl (ev rfl rfl) (cvI Tryz.runUnderlying71 Tryz.runUnderlying63 (wrap_u32 (by omega) (by omega))) ?_)
 refine wav rfl rfl ?_
 refine wn1 ?_
 refine wLv ?_
 refine wr1 Tryz.results152 (tlT (v:=.int .u32 ((a * b % n:Nat):Int)) rfl rfl) ?_
 exact ⟨_,_,rfl,isI,hS.new0⟩
theorem wpower {n:Nat} (hn:0 < n) (hn2:n < 4294967296) :
  ∀ (e:Nat),e < 18446744073709551616 → ∀ {a:Nat} {w:World},a < 4294967296 → Calls Tryz.prog 151 #[.int .u32 (a:Int),.int .u64 (e:Int),.int .u32 (n:Int)] w (Ret (Is (.int .u32 ((a ^ e % n:Nat):Int))) w):=by
 intro e
 induction e using Nat.strongRecOn with
 | _ e ih =>
 intro he a w ha
 have hS:=Sep.init w
 refine went Tryz.func151 rfl (n:=31) rfl rfl ?_
 refine wsr (wavc ?_)
 refine wn1 (wSq (wsr (wmv rfl rfl ?_)))
 by_cases he0:e = 0
 ·
  refine wbc rfl rfl (bEq (eqT (by omega))) ?_
  refine wn1 ?_
  refine wT (ev rfl rfl) ?_
  refine wsr (wmv rfl rfl ?_)
  refine wl rfl (obin (z:=.int .u32 ((1 % n:Nat):Int)) rfl rfl evc (ev rfl rfl) (bin_rem (by omega) rfl) ?_)
  refine wav rfl rfl ?_
  refine wn1 ?_
  refine wLv ?_
  refine thenR ?_
  refine wr1 Tryz.results151 (tlT (v:=.int .u32 ((1 % n:Nat):Int)) rfl rfl) ?_
  exact ⟨_,_,rfl,⟨by rw [he0]; rfl,rfl⟩,hS.new0⟩
 refine wbc rfl rfl (bEq (eqF (by omega))) ?_
 refine wn1 ?_
 refine wF (ev rfl rfl) ?_
 refine wSk (tNo (wsr (wmv rfl rfl ?_)))
 refine wmv rfl rfl ?_
 refine wbc (u:=.int .u64 (e:Int)) (v:=.int .u64 2) (z:=.int .u64 ((e / 2:Nat):Int)) rfl rfl (bin_quo (by decide) (by rw [show (e:Int).tdiv 2 = ((e / 2:Nat):Int) from rfl]; exact wU6 (by omega) (by omega))) ?_
 refine wmv rfl rfl ?_
 obtain ⟨h,hh⟩:∃ h:Nat,Hid (a ^ (e / 2) % n = h):=⟨_,rfl⟩
 have hlt:h < 4294967296:=by rw [← hh.out]; exact mod_lt32 hn hn2
 have hlt2:=mod_lt32 (a:=h * h) hn hn2
 have hlt3:=mod_lt32 (a:=a) hn hn2
 refine wcl Tryz.call151 ((show Calls _ _ _ _ (Ret (Is (.int .u32 (h:Int))) _) from by rw [← hh.out]; exact ih (e / 2) (by omega) (by omega) ha)) (args3 (ev rfl rfl) (ev rfl rfl) (ev rfl rfl)) hS ?_
 clear hS; rintro _ _ w1 ⟨rfl,rfl⟩ hS
 refine wav rfl rfl ?_
 refine wn2 (wmv rfl rfl ?_)
 refine wmv rfl rfl ?_
 refine wmv rfl rfl ?_
 refine wcl Tryz.call152 (wtimes hlt hlt hn hn2) (args3 (ev rfl rfl) (ev rfl rfl) (ev rfl rfl)) hS ?_
 clear hS; rintro _ _ w2 ⟨rfl,rfl⟩ hS
 refine wav rfl rfl ?_
 refine wn1 (wSq (wsr (wmv rfl rfl ?_)))
 refine wbc (u:=.int .u64 (e:Int)) (v:=.int .u64 2) (z:=.int .u64 ((e % 2:Nat):Int)) rfl rfl (bin_rem (by decide) rfl) ?_
 by_cases ho:e % 2 = 1
 ·
  refine wbc rfl rfl (bEq (eqT (by omega))) ?_
  refine wn1 ?_
  refine wT (ev rfl rfl) ?_
  refine wreg (wmv rfl rfl ?_)
  refine wmv rfl rfl ?_
  refine wmv rfl rfl ?_
  refine wbt (z:=.int .u32 ((a % n:Nat):Int)) rfl rfl rfl rfl (bin_rem (by omega) rfl) ?_
  refine wmv rfl rfl ?_
  refine wcl Tryz.call152 (wtimes hlt2 hlt3 hn hn2) (args3 (ev rfl rfl) (ev rfl rfl) (ev rfl rfl)) hS ?_
  clear hS; rintro _ _ w3 ⟨rfl,rfl⟩ hS
  refine wav rfl rfl ?_
  refine wn2 (wmv rfl rfl ?_)
  refine wav rfl rfl ?_
  refine wn1 ?_
  refine wLv ?_
  refine wr1 Tryz.results151 (tlT (v:=.int .u32 (((h * h % n * (a % n) % n:Nat):Int))) rfl rfl) ?_
  exact ⟨_,_,rfl,⟨by rw [← hh.out,pow_odd_mod ho],rfl⟩,hS.new0⟩
 refine wbc rfl rfl (bEq (eqF (by omega))) ?_
 refine wn1 ?_
 refine wF (ev rfl rfl) ?_
 refine wSk (tNo (wsr (wmv rfl rfl ?_)))
 refine wav rfl rfl ?_
 refine wn1 ?_
 refine wLv ?_
 refine wr1 Tryz.results151 (tlT (v:=.int .u32 ((h * h % n:Nat):Int)) rfl rfl) ?_
 exact ⟨_,_,rfl,⟨by rw [← hh.out,pow_even_mod (by omega)],rfl⟩,hS.new0⟩
theorem parts7 {a:Act} {x0 x1 x2 x3 x4 x5 x6:Operand} {u0 u1 u2 u3 u4 u5 u6:Value} {i0 i1 i2 i3 i4 i5 i6:Nat} (h0:a.eval x0 = u0) (h1:a.eval x1 = u1) (h2:a.eval x2 = u2) (h3:a.eval x3 = u3) (h4:a.eval x4 = u4) (h5:a.eval x5 = u5) (h6:a.eval x6 = u6):(#[(i0,x0),(i1,x1),(i2,x2),(i3,x3),(i4,x4),(i5,x5),(i6,x6)].map fun (i,x) => (i,a.eval x)) = #[(i0,u0),(i1,u1),(i2,u2),(i3,u3),(i4,u4),(i5,u5),(i6,u6)]:=by simp [h0,h1,h2,h3,h4,h5,h6]
theorem sp_at:∀ i,i < 7 → ([.int .u32 2,.int .u32 3,.int .u32 5,.int .u32 7,.int .u32 11,.int .u32 13,.int .u32 61]:List Value)[i]? = some (.int .u32 ((spL.getD i 0:Nat):Int))
  | 0,_ => rfl | 1,_ => rfl | 2,_ => rfl | 3,_ => rfl | 4,_ => rfl | 5,_ => rfl | 6,_ => rfl | _ + 7,h => by omega
theorem bs_at:∀ i,i < 3 → ([.int .u32 2,.int .u32 7,.int .u32 61]:List Value)[i]? = some (.int .u32 ((bsL.getD i 0:Nat):Int))
  | 0,_ => rfl | 1,_ => rfl | 2,_ => rfl | _ + 3,h => by omega
theorem bases_cells {w:World} (h:Bases w):∀ j v,([.int .u32 2,.int .u32 7,.int .u32 61]:List Value)[j]? = some v → w.cell? ⟨0,0 + j,none⟩ = some v
  | 0,v,hv => by rw [h 0 2 rfl]; exact hv
  | 1,v,hv => by rw [h 1 7 rfl]; exact hv
  | 2,v,hv => by rw [h 2 61 rfl]; exact hv
  | _ + 3,v,hv => by simp at hv
theorem sp_lt {i:Nat} (h:i < 7):2 ≤ spL.getD i 0 ∧ spL.getD i 0 < 62:=by
  have:∀ i,i < 7 → 2 ≤ spL.getD i 0 ∧ spL.getD i 0 < 62:=by decide
  exact this i h
theorem bs_lt {i:Nat} (h:i < 3):2 ≤ bsL.getD i 0 ∧ bsL.getD i 0 < 62:=by
  have:∀ i,i < 3 → 2 ≤ bsL.getD i 0 ∧ bsL.getD i 0 < 62:=by decide
  exact this i h
def NoSp (n i:Nat):Prop := ∀ j,j < i → ¬ spL.getD j 0 ∣ n
theorem NoSp.all {n:Nat} (h:NoSp n 7):¬ 2 ∣ n ∧ ¬ 3 ∣ n ∧ ¬ 5 ∣ n ∧ ¬ 7 ∣ n ∧ ¬ 11 ∣ n ∧ ¬ 13 ∣ n ∧ ¬ 61 ∣ n :=
  ⟨h 0 (by omega),h 1 (by omega),h 2 (by omega),h 3 (by omega),h 4 (by omega),h 5 (by omega),h 6 (by omega)⟩
theorem NoSp.bs {n j:Nat} (h:NoSp n 7) (hn:2 ≤ n) (hj:j < 3) (hp:MR.Pr n):¬ n ∣ bsL.getD j 0:=fun hd => by
 obtain ⟨h2,_,_,h7,_,_,h61⟩:=h.all
 match j,hj with
 | 0,_ =>
  have hl:n ≤ 2:=Nat.le_of_dvd (by decide) hd
  obtain rfl:n = 2:=by omega
  exact h2 ⟨1,rfl⟩
 | 1,_ =>
  have p7:=spL_pr (i:=3) (by omega)
  rcases p7.2 n hd with e | e
  ·omega
  exact h7 (by rw [e]; exact Nat.dvd_refl _)
 | 2,_ =>
  have p61:=spL_pr (i:=6) (by omega)
  rcases p61.2 n hd with e | e
  ·omega
  exact h61 (by rw [e]; exact Nat.dvd_refl _)
def AllS (n j:Nat):Prop := ∀ i,i < j → MR.Strong (bsL.getD i 0) n
theorem is_end {n:Nat} (h1:1 < n) (hlt:n < 4294967296) (hs:NoSp n 7) (ha:AllS n 3):MR.Pr n:=by
  obtain ⟨h2,h3,h5,h7,h11,h13,h61⟩:=hs.all
  exact MR.prime_of h1 hlt h2 h3 h5 h7 h11 h13 h61 (ha 0 (by omega)) (ha 1 (by omega)) (ha 2 (by omega))
theorem AllS.next {n j:Nat} (h:AllS n j) (hs:MR.Strong (bsL.getD j 0) n):AllS n (j + 1):=fun i hi => by
  by_cases e:i = j
  · rw [e]; exact hs
  exact h i (by omega)
theorem shr_u64w (a k:Nat) (hk:k < 64):((a:Nat):Int).fdiv (2 ^ (min ((k:Nat):Int).toNat IntKind.u64.bits)) = ((a / 2 ^ k:Nat):Int):=by
  rw [show min ((k:Nat):Int).toNat IntKind.u64.bits = k by show min ((k:Nat):Int).toNat 64 = k; omega,Int.fdiv_eq_ediv_of_nonneg _ (Int.le_of_lt (Int.pow_pos (by omega)))]
  rw [Int.natCast_ediv,Int.natCast_pow]; rfl
theorem sq_step {b d k n X:Nat} (h:b ^ (d * 2 ^ k) % n = X):b ^ (d * 2 ^ (k + 1)) % n = X * X % n:=by
  rw [← h, ← Nat.mul_mod, ← Nat.pow_add]
  congr 2
  rw [Nat.pow_succ, ← Nat.mul_assoc]; omega
theorem wpis {n : Nat} {w : World} (hp2 : n < 4294967296) (ht : Tb w) {b : Bool} (hb : b = true ↔ MR.Pr n) :
    Calls Tryz.prog 132 #[.int .u32 (n:Int)] w (Ret (Is (.bool b)) w):=by
  have hS:=Sep.init w
  refine went Tryz.func132 rfl (n:=62) rfl rfl ?_
  refine wsr (wavc ?_)
  refine wn1 ?_
  refine wscope ?_
  refine wSq (wsr (wmv rfl rfl ?_))
  by_cases hn2:n < 2
  ·
    refine wbc rfl rfl (bLs (decide_eq_true (by omega))) ?_
    refine wn1 ?_
    refine wT (ev rfl rfl) ?_
    refine wsr (wavc ?_)
    refine wn1 ?_
    refine wLv ?_
    refine thenR ?_
    refine scR ?_
    have hbv:b = false:=by
      cases hbb:b with
      | false => rfl
      | true =>
        exfalso
        have hpr:=hb.1 hbb
        have:=hpr.1; omega
    refine wr1 Tryz.results132 (tlT (v:=.bool false) rfl rfl) ?_
    exact ⟨_,_,rfl,⟨by rw [hbv],rfl⟩,hS.new0⟩
  refine wbc rfl rfl (bLs (decide_eq_false (by omega))) ?_
  refine wn1 ?_
  refine wF (ev rfl rfl) ?_
  refine wSk (tNo (wSq (wsr (wl rfl (obuild (ps:=#[(0,.int .u32 2),(1,.int .u32 3),(2,.int .u32 5),(3,.int .u32 7),(4,.int .u32 11),(5,.int .u32 13),(6,.int .u32 61)]) (v:=.agg #[.int .u32 2,.int .u32 3,.int .u32 5,.int .u32 7,.int .u32 11,.int .u32 13,.int .u32 61]) rfl rfl (parts7 (evc (v:=.int .u32 2)) (evc (v:=.int .u32 3)) (evc (v:=.int .u32 5)) (evc (v:=.int .u32 7)) (evc (v:=.int .u32 11)) (evc (v:=.int .u32 13)) (evc (v:=.int .u32 61))) (fun w => by simp [go_sem,Instr.build,Instr.fill]) ?_)))))
  refine wmvc ?_
  refine wn1 (wBk ?_)
  have h2:2 ≤ n:=by omega
  refine wLp (σ := Nat) (fun i a9 w' => ∃ (fb:Nat → Value),a9 = act 62 (sets fb [(0,.int .u32 (n:Int)),(12,.agg #[.int .u32 2,.int .u32 3,.int .u32 5,.int .u32 7,.int .u32 11,.int .u32 13,.int .u32 61]),(13,.int .i64 (i:Int))]) ∧ Sep w [] w' ∧ (i ≤ 7) ∧ (NoSp n i)) (fun i => 7 - i) (0) ⟨_,aSs ⟨rfl,rfl,rfl,trivial⟩,hS,by omega,fun j h => by omega⟩ ?_
  clear hS; rintro i _ w1 ⟨fb,rfl,hS,hi,hs⟩
  refine wsr ?_
  by_cases hi7:i < 7
  ·
    refine wbc rfl rfl (bLs (decide_eq_true (by omega))) ?_
    refine wn1 (wSq ?_)
    refine wT (ev rfl rfl) ?_
    refine wk2 ?_
    have hq:=sp_lt hi7
    have hqp:=spL_pr hi7
    refine wl rfl (oidx (cs:=[.int .u32 2,.int .u32 3,.int .u32 5,.int .u32 7,.int .u32 11,.int .u32 13,.int .u32 61]) (k:=i) (v:=.int .u32 ((spL.getD i 0:Nat):Int)) rfl rfl Tryz.runUnderlying172 Tryz.sizeOf63 Tryz.isAgg63 (ev rfl rfl) (ev rfl rfl) (sp_at i hi7) ((by omega)) ?_)
    refine wav rfl rfl ?_
    refine wn2 (wmv rfl rfl ?_)
    refine wmv rfl rfl ?_
    refine wbt (z:=.int .u32 ((n % spL.getD i 0:Nat):Int)) rfl rfl rfl rfl (bin_rem (by omega) rfl) ?_
    by_cases hd:n % spL.getD i 0 = 0
    ·
      refine wbc rfl rfl (bEq (eqT (by omega))) ?_
      refine wn1 ?_
      refine wT (ev rfl rfl) ?_
      refine wsr (wmv rfl rfl ?_)
      refine wmv rfl rfl ?_
      have hdv:=Nat.dvd_of_mod_eq_zero hd
      by_cases he:n = spL.getD i 0
      ·
        refine wbt rfl rfl rfl rfl (bEq (eqT (by omega))) ?_
        refine wav rfl rfl ?_
        refine wn1 ?_
        refine wLv ?_
        refine blkR ?_
        refine thenR ?_
        refine thenR ?_
        refine blkR ?_
        refine thenR ?_
        refine scR ?_
        have hbv:b = true:=hb.2 (by rw [he]; exact hqp)
        refine wr1 Tryz.results132 (tlT (v:=.bool true) rfl rfl) ?_
        exact ⟨_,_,rfl,⟨by rw [hbv],rfl⟩,hS.new0⟩
      refine wbt rfl rfl rfl rfl (bEq (eqF (by omega))) ?_
      refine wav rfl rfl ?_
      refine wn1 ?_
      refine wLv ?_
      refine blkR ?_
      refine thenR ?_
      refine thenR ?_
      refine blkR ?_
      refine thenR ?_
      refine scR ?_
      have hbv:b = false:=by
        cases hbb:b with
        | false => rfl
        | true =>
          exfalso
          have hpr:=hb.1 hbb
          rcases hpr.2 _ hdv with h | h
          · omega
          exact he h.symm
      refine wr1 Tryz.results132 (tlT (v:=.bool false) rfl rfl) ?_
      exact ⟨_,_,rfl,⟨by rw [hbv],rfl⟩,hS.new0⟩
    refine wbc rfl rfl (bEq (eqF (by omega))) ?_
    refine wn1 ?_
    refine wF (ev rfl rfl) ?_
    refine wSk (blkN (tNo (wreg (wbc (z:=.int .i64 ((i + 1:Nat):Int)) rfl rfl (bAd (wI6 (by omega) (by omega))) ?_))))
    refine wmv rfl rfl ?_
    refine wn1 ?_
    exact ⟨(i + 1), ⟨_, aSs (l := [(0, .int .u32 (n : Int)), (12, .agg #[.int .u32 2, .int .u32 3, .int .u32 5, .int .u32 7, .int .u32 11, .int .u32 13, .int .u32 61]), (13, .int .i64 (((i + 1 : Nat) : Int)))]) ⟨rfl, rfl, rfl, trivial⟩, hS.pick [] (by decide) rfl, by omega, fun j hj hdv => by
              by_cases e:j = i
              · exact hd (e ▸ Nat.mod_eq_zero_of_dvd hdv)
              exact hs j (by omega) hdv⟩,by omega⟩
  refine wbc rfl rfl (bLs (decide_eq_false (by omega))) ?_
  refine wn1 (wSq ?_)
  refine wF (ev rfl rfl) ?_
  refine wEx ?_
  refine tEx ?_
  refine tEx ?_
  refine blkE ?_
  refine tNo (wsr (wmv rfl rfl ?_))
  obtain rfl:i = 7:=by omega
  obtain ⟨k,m,hkm⟩:=odd_part (n - 1) (by omega)
  have n2:=hs.all.1
  obtain ⟨hk32,_,_⟩:=tz_facts hkm (by omega)
  have hk0:0 < k:=by
    rcases Nat.eq_zero_or_pos k with h | h
    · exfalso; rw [h,Nat.pow_zero] at hkm; omega
    exact h
  have hkp:=Nat.two_pow_pos k
  have hkm2:n - 1 = (2 * m + 1) * 2 ^ k:=by rw [hkm,Nat.mul_comm]
  have hdv:(n - 1) / 2 ^ k = 2 * m + 1:=by rw [hkm2,Nat.mul_div_cancel _ hkp]
  have hml:2 * m + 1 ≤ n - 1:=by rw [← hdv]; exact Nat.div_le_self _ _
  refine wbc (z:=.int .u32 ((n - 1:Nat):Int)) rfl rfl (bin_sub ((by rw [show (n:Int) - 1 = ((n - 1:Nat):Int) by omega]; exact wrap_u32 (by omega) (by omega)))) ?_
  refine wcl Tryz.call150 (wtz (ht.at hS).tab hkm (by omega)) (ar1 (ev rfl rfl)) hS ?_
  clear hS; rintro _ _ w2 ⟨rfl,rfl⟩ hS
  refine wav rfl rfl ?_
  refine wn2 (wmv rfl rfl ?_)
  refine wbc (z:=.int .u32 ((n - 1:Nat):Int)) rfl rfl (bin_sub ((by rw [show (n:Int) - 1 = ((n - 1:Nat):Int) by omega]; exact wrap_u32 (by omega) (by omega)))) ?_
  refine wl rfl (oCv (u:=.int .u32 ((n - 1:Nat):Int)) (v:=.int .u64 ((n - 1:Nat):Int)) rfl rfl (ev rfl rfl) (cvI Tryz.runUnderlying63 Tryz.runUnderlying71 (wU6 (by omega) (by omega))) ?_)
  refine wmv rfl rfl ?_
  refine wbt (z:=.int .u64 ((2 * m + 1:Nat):Int)) rfl rfl rfl rfl (bin_shr (by omega) ((shr_u64w _ _ (by omega)).trans (by rw [hdv]))) ?_
  refine wav rfl rfl ?_
  refine wn1 (wSq (wlabel (tNo (wSq (wsr (wl rfl (oloadA ⟨Tryz.isAgg173,Tryz.sizeOf173⟩ rfl rfl evg (fun j v hj => bases_cells (ht.at hS).bas j v hj) rfl ?_)))))))
  refine wmvc ?_
  refine wn1 (wBk ?_)
  refine wLp (σ := Nat) (fun j a9 w' => ∃ (fb:Nat → Value),a9 = act 62 (sets fb [(0,.int .u32 (n:Int)),(5,.int .i64 (k:Int)),(6,.int .u64 ((2 * m + 1:Nat):Int)),(32,.agg #[.int .u32 2,.int .u32 7,.int .u32 61]),(33,.int .i64 (j:Int))]) ∧ Sep w [] w' ∧ (j ≤ 3) ∧ (AllS n j)) (fun j => 3 - j) (0) ⟨_,aSs ⟨rfl,rfl,rfl,rfl,rfl,trivial⟩,hS,by omega,fun i h => by omega⟩ ?_
  clear hS; rintro j _ w3 ⟨fb,rfl,hS,hj,ha⟩
  refine wsr ?_
  by_cases hj3:j < 3
  ·
    refine wbc rfl rfl (bLs (decide_eq_true (by omega))) ?_
    refine wn1 (wSq ?_)
    refine wT (ev rfl rfl) ?_
    refine wk2 ?_
    have hlt3:=bs_lt (i:=j) (by omega)
    refine wl rfl (oidx (cs:=[.int .u32 2,.int .u32 7,.int .u32 61]) (k:=j) (v:=.int .u32 ((bsL.getD j 0:Nat):Int)) rfl rfl Tryz.runUnderlying173 Tryz.sizeOf63 Tryz.isAgg63 (ev rfl rfl) (ev rfl rfl) (bs_at j (by omega)) ((by omega)) ?_)
    refine wav rfl rfl ?_
    refine wn2 (wmv rfl rfl ?_)
    refine wmv rfl rfl ?_
    refine wmv rfl rfl ?_
    obtain ⟨Y,hY⟩:∃ Y:Nat,Hid (bsL.getD j 0 ^ (2 * m + 1) % n = Y):=⟨_,rfl⟩
    have hYl:Y < n:=by rw [← hY.out]; exact Nat.mod_lt _ (by omega)
    refine wcl Tryz.call151 ((show Calls _ _ _ _ (Ret (Is (.int .u32 (Y:Int))) _) from by rw [← hY.out]; exact wpower (by omega) hp2 _ (by omega) (by omega))) (args3 (ev rfl rfl) (ev rfl rfl) (ev rfl rfl)) hS ?_
    clear hS; rintro _ _ w4 ⟨rfl,rfl⟩ hS
    refine wav rfl rfl ?_
    refine wn1 (wSq (wsr (wmv rfl rfl ?_)))
    by_cases hY1:Y = 1
    ·
      refine wbc rfl rfl (bEq (eqT (by omega))) ?_
      refine wmv rfl rfl ?_
      refine wlOff (e:=42) (d:=43) (b':=true) rfl rfl rfl rfl rfl rfl ?_
      refine wlOff (e:=42) (d:=44) (b':=true) rfl rfl rfl rfl rfl rfl ?_
      refine wlOff (e:=42) (d:=45) (b':=true) rfl rfl rfl rfl rfl rfl ?_
      refine wlOff (e:=42) (d:=46) (b':=true) rfl rfl rfl rfl rfl rfl ?_
      refine wl rfl (opick rfl rfl (ev rfl rfl) evc ?_)
      refine wn1 ?_
      refine wT (ev rfl rfl) ?_
      refine wEx ?_
      refine tEx ?_
      refine blkE ?_
      refine tNo (wreg ?_)
      have hst:MR.Strong (bsL.getD j 0) n:=⟨2 * m + 1,k,hkm2,by omega,.inl (hY.out.trans hY1)⟩
      refine wbc (z:=.int .i64 ((j + 1:Nat):Int)) rfl rfl (bAd (wI6 (by omega) (by omega))) ?_
      refine wmv rfl rfl ?_
      refine wn1 ?_
      exact ⟨(j + 1),⟨_,aSs ⟨rfl,rfl,rfl,rfl,rfl,trivial⟩,hS.pick [] (by decide) rfl,by omega,ha.next hst⟩,by omega⟩
    refine wbc rfl rfl (bEq (eqF (by omega))) ?_
    refine wmv rfl rfl ?_
    refine wlOn (e:=42) rfl rfl rfl rfl (omove rfl rfl (ev rfl rfl) ?_)
    refine wlOn (e:=42) rfl rfl rfl rfl (omove rfl rfl (ev rfl rfl) ?_)
    refine wlOn (e:=42) rfl rfl rfl rfl (obin (z:=.int .u32 ((n - 1:Nat):Int)) rfl rfl (ev rfl rfl) evc (bin_sub ((by rw [show (n:Int) - 1 = ((n - 1:Nat):Int) by omega]; exact wrap_u32 (by omega) (by omega)))) ?_)
    by_cases hYn:Y = n - 1
    ·
      refine wlOn (e:=42) rfl rfl rfl rfl (obin rfl rfl (ev rfl rfl) (ev rfl rfl) (bEq (eqT (by omega))) ?_)
      refine wl rfl (opick rfl rfl (ev rfl rfl) (ev rfl rfl) ?_)
      refine wn1 ?_
      refine wT (ev rfl rfl) ?_
      refine wEx ?_
      refine tEx ?_
      refine blkE ?_
      refine tNo (wreg ?_)
      have hst:MR.Strong (bsL.getD j 0) n:=⟨2 * m + 1,k,hkm2,by omega,.inr ⟨0,by omega,by rw [Nat.pow_zero,Nat.mul_one]; exact hY.out.trans hYn⟩⟩
      refine wbc (z:=.int .i64 ((j + 1:Nat):Int)) rfl rfl (bAd (wI6 (by omega) (by omega))) ?_
      refine wmv rfl rfl ?_
      refine wn1 ?_
      exact ⟨(j + 1),⟨_,aSs ⟨rfl,rfl,rfl,rfl,rfl,trivial⟩,hS.pick [] (by decide) rfl,by omega,ha.next hst⟩,by omega⟩
    refine wlOn (e:=42) rfl rfl rfl rfl (obin rfl rfl (ev rfl rfl) (ev rfl rfl) (bEq (eqF (by omega))) ?_)
    refine wl rfl (opick rfl rfl (ev rfl rfl) (ev rfl rfl) ?_)
    refine wn1 ?_
    refine wF (ev rfl rfl) ?_
    refine wSk (tNo (wSq (wsr (wmv rfl rfl ?_))))
    refine wbc (z:=.int .i64 ((k - 1:Nat):Int)) rfl rfl (bin_sub ((by rw [show (k:Int) - 1 = ((k - 1:Nat):Int) by omega]; exact wI6 (by omega) (by omega)))) ?_
    refine wmvc ?_
    refine wn1 (wBk ?_)
    have hX0:Hid (bsL.getD j 0 ^ ((2 * m + 1) * 2 ^ 0) % n = Y):=by show _ = _; rw [Nat.pow_zero,Nat.mul_one]; exact hY.out
    have hne0:∀ i,i ≤ 0 → bsL.getD j 0 ^ ((2 * m + 1) * 2 ^ i) % n ≠ n - 1:=fun i hi h => by
      obtain rfl:i = 0:=by omega
      exact hYn (hX0.out.symm.trans h)
    refine wLp (σ := Nat) (fun t a9 w' => ∃ (fb:Nat → Value) (X:Nat),a9 = act 62 (sets fb [(0,.int .u32 (n:Int)),(5,.int .i64 (k:Int)),(6,.int .u64 ((2 * m + 1:Nat):Int)),(8,.int .u32 ((bsL.getD j 0:Nat):Int)),(9,.int .u32 (X:Int)),(32,.agg #[.int .u32 2,.int .u32 7,.int .u32 61]),(33,.int .i64 (j:Int)),(34,.bool true),(35,.int .u32 ((bsL.getD j 0:Nat):Int)),(36,.int .u32 ((bsL.getD j 0:Nat):Int)),(37,.int .u64 ((2 * m + 1:Nat):Int)),(38,.int .u32 (n:Int)),(39,.int .u32 (Y:Int)),(40,.int .u32 (Y:Int)),(41,.bool false),(42,.bool false),(43,.int .u32 (Y:Int)),(44,.int .u32 (n:Int)),(45,.int .u32 ((n - 1:Nat):Int)),(46,.bool false),(47,.bool false),(48,.int .i64 (k:Int)),(49,.int .i64 ((k - 1:Nat):Int)),(50,.int .i64 (t:Int))]) ∧ Sep w [] w' ∧ (t ≤ k - 1) ∧ (Hid (bsL.getD j 0 ^ ((2 * m + 1) * 2 ^ t) % n = X)) ∧ (∀ i,i ≤ t → bsL.getD j 0 ^ ((2 * m + 1) * 2 ^ i) % n ≠ n - 1)) (fun t => k - 1 - t) (0) ⟨_,_,aSs ⟨rfl,rfl,rfl,rfl,rfl,rfl,rfl,rfl,rfl,rfl,rfl,rfl,rfl,rfl,rfl,rfl,rfl,rfl,rfl,rfl,rfl,rfl,rfl,rfl,trivial⟩,hS,by omega,hX0,hne0⟩ ?_
    clear hS; rintro t _ w5 ⟨fb,X,rfl,hS,ht3,hX,hne⟩
    refine wsr ?_
    by_cases htk:t < k - 1
    ·
      refine wbt rfl rfl rfl rfl (bLs (decide_eq_true (by omega))) ?_
      refine wn1 (wSq ?_)
      refine wT (ev rfl rfl) ?_
      refine wk2 (wmv rfl rfl ?_)
      refine wmv rfl rfl ?_
      refine wmv rfl rfl ?_
      have hXl:X < n:=by rw [← hX.out]; exact Nat.mod_lt _ (by omega)
      have hsq:=sq_step hX.out
      refine wcl Tryz.call152 (wtimes (by omega) (by omega) (by omega) hp2) (args3 (ev rfl rfl) (ev rfl rfl) (ev rfl rfl)) hS ?_
      clear hS; rintro _ _ w6 ⟨rfl,rfl⟩ hS
      refine wav rfl rfl ?_
      refine wn2 (wmv rfl rfl ?_)
      refine wmv rfl rfl ?_
      refine wbc (z:=.int .u32 ((n - 1:Nat):Int)) rfl rfl (bin_sub ((by rw [show (n:Int) - 1 = ((n - 1:Nat):Int) by omega]; exact wrap_u32 (by omega) (by omega)))) ?_
      have hml:=Nat.mod_lt (X * X) (show 0 < n by omega)
      by_cases hXn:X * X % n = n - 1
      ·
        refine wbt rfl rfl rfl rfl (bEq (eqT (by omega))) ?_
        refine wn1 ?_
        refine wT (ev rfl rfl) ?_
        refine wEx ?_
        refine blkX rfl ?_
        refine tEx ?_
        refine tEx ?_
        refine blkX rfl ?_
        refine tEx ?_
        refine blkE ?_
        refine tNo (wreg ?_)
        have hst:MR.Strong (bsL.getD j 0) n:=⟨2 * m + 1,k,hkm2,by omega,.inr ⟨t + 1,by omega,hsq.trans hXn⟩⟩
        refine wbc (z:=.int .i64 ((j + 1:Nat):Int)) rfl rfl (bAd (wI6 (by omega) (by omega))) ?_
        refine wmv rfl rfl ?_
        refine wn1 ?_
        exact ⟨(j + 1),⟨_,aSs ⟨rfl,rfl,rfl,rfl,rfl,trivial⟩,hS.pick [] (by decide) rfl,by omega,ha.next hst⟩,by omega⟩
      refine wbt rfl rfl rfl rfl (bEq (eqF (by omega))) ?_
      refine wn1 ?_
      refine wF (ev rfl rfl) ?_
      refine wSk (blkN (tNo (wreg (wbc (z:=.int .i64 ((t + 1:Nat):Int)) rfl rfl (bAd (wI6 (by omega) (by omega))) ?_))))
      refine wmv rfl rfl ?_
      refine wn1 ?_
      exact ⟨(t + 1), ⟨_, _, aSs (l := [(0, .int .u32 (n : Int)), (5, .int .i64 (k : Int)), (6, .int .u64 (((2 * m + 1 : Nat) : Int))), (8, .int .u32 (((bsL.getD j 0 : Nat) : Int))), (9, .int .u32 (((X * X % n : Nat) : Int))), (32, .agg #[.int .u32 2, .int .u32 7, .int .u32 61]), (33, .int .i64 (j : Int)), (34, .bool true), (35, .int .u32 (((bsL.getD j 0 : Nat) : Int))), (36, .int .u32 (((bsL.getD j 0 : Nat) : Int))), (37, .int .u64 (((2 * m + 1 : Nat) : Int))), (38, .int .u32 (n : Int)), (39, .int .u32 (Y : Int)), (40, .int .u32 (Y : Int)), (41, .bool false), (42, .bool false), (43, .int .u32 (Y : Int)), (44, .int .u32 (n : Int)), (45, .int .u32 (((n - 1 : Nat) : Int))), (46, .bool false), (47, .bool false), (48, .int .i64 (k : Int)), (49, .int .i64 (((k - 1 : Nat) : Int))), (50, .int .i64 (((t + 1 : Nat) : Int)))]) ⟨rfl, rfl, rfl, rfl, rfl, rfl, rfl, rfl, rfl, rfl, rfl, rfl, rfl, rfl, rfl, rfl, rfl, rfl, rfl, rfl, rfl, rfl, rfl, rfl, trivial⟩, hS.pick [] (by decide) rfl, by omega, hsq, fun i hi h => by
                by_cases e:i = t + 1
                · exact hXn (hsq.symm.trans (e ▸ h))
                exact hne i (by omega) h⟩,by omega⟩
    refine wbt rfl rfl rfl rfl (bLs (decide_eq_false (by omega))) ?_
    refine wn1 (wSq ?_)
    refine wF (ev rfl rfl) ?_
    refine wEx ?_
    refine tEx ?_
    refine tEx ?_
    refine blkE ?_
    refine tNo (wsr (wavc ?_))
    refine wn1 ?_
    refine wLv ?_
    refine blkR ?_
    refine thenR ?_
    refine thenR ?_
    refine blkR ?_
    refine thenR ?_
    refine scR ?_
    have hbv:b = false:=by
      cases hbb:b with
      | false => rfl
      | true =>
        exfalso
        have hpr:=hb.1 hbb
        rcases MR.pr_strong hpr (hs.bs h2 (by omega) hpr) (d:=2 * m + 1) (s:=k) (by omega) with h | ⟨i,hik,h⟩
        · exact hY1 (hY.out.symm.trans h)
        exact hne i (by omega) h
    refine wr1 Tryz.results132 (tlT (v:=.bool false) rfl rfl) ?_
    exact ⟨_,_,rfl,⟨by rw [hbv],rfl⟩,hS.new0⟩
  refine wbc rfl rfl (bLs (decide_eq_false (by omega))) ?_
  refine wn1 (wSq ?_)
  refine wF (ev rfl rfl) ?_
  refine wEx ?_
  refine tEx ?_
  refine tEx ?_
  refine blkE ?_
  refine tNo (wsr (wavc ?_))
  refine wn1 ?_
  refine wLv ?_
  refine scR ?_
  obtain rfl:j = 3:=by omega
  have hbv:b = true:=hb.2 (is_end (by omega) hp2 hs ha)
  refine wr1 Tryz.results132 (tlT (v:=.bool true) rfl rfl) ?_
  exact ⟨_,_,rfl,⟨by rw [hbv],rfl⟩,hS.new0⟩
/- An operation modulo a prime: the closure is called at a later world. -/
end Go.Proofs.YtnlnibngpeempaaGreatDoor
