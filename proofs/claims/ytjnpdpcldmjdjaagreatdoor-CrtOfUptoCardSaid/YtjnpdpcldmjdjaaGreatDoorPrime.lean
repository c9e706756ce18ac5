/-
  Contracts and lemmas, joined in one text.
-/
import Derived.Test.YtjnpdpcldmjdjaaGreatDoorMR
import Derived.Test.YtjnpdpcldmjdjaaGreatDoorMr
import Derived.Test.YtjnpdpcldmjdjaaGreatDoorTA
import Derived.Test.YtjnpdpcldmjdjaaGreatDoorWB
import Derived.Test.YtjnpdpcldmjdjaaGreatDoorRC
import Derived.Test.YtjnpdpcldmjdjaaGreatDoorWA
set_option linter.unusedVariables false
set_option linter.unusedSimpArgs false
/-
  prime's functions and the document's (simileref04),walked.
-/
set_option maxRecDepth 100000
set_option maxHeartbeats 16000000
namespace Go.Proofs.YtjnpdpcldmjdjaaGreatDoor
open Go.RowKit
theorem mul_u64 {a b:Nat} (ha:a < 4294967296) (hb:b < 4294967296):IntKind.u64.wrap (((a:Nat):Int) * ((b:Nat):Int)) = ((a * b:Nat):Int):=by
  have h:=mul_bd ha hb
  rw [← Int.natCast_mul]
  exact wU6 (by omega) (by omega)
theorem wrapN_i64 {n:Nat} (h:n < 9223372036854775808):IntKind.i64.wrap ((n:Nat):Int) = ((n:Nat):Int):=wI6 (by omega) (by omega)
theorem mod_lt32 {a n:Nat} (hn:0 < n) (hn2:n < 4294967296):a % n < 4294967296:=Nat.lt_trans (Nat.mod_lt _ hn) hn2
def Bases (w:World):Prop := ∀ (j v:Nat),bsL[j]? = some v → w.cell? ⟨0,j,none⟩ = some (.int .u32 (v:Int))
structure Tb (w:World):Prop where
  tab:Tab w
  bas:Bases w
theorem Tb.at {w w':World} {R:List Res} (h:Tb w) (hS:Sep w R w'):Tb w':=⟨h.tab.at hS,fun j v hj => tab_keep (w0:=w) hS (h.bas j v hj)⟩
theorem Tb.grow {w w':World} (h:Tb w) (hb:Below w.heap.size w w'):Tb w':=h.at (R:=[]) ⟨hb,(fun _ h => by cases h),(fun _ h => by cases h),List.Pairwise.nil⟩
theorem wtimes {a b n:Nat} {w:World} (ha:a < 4294967296) (hb:b < 4294967296) (hn:0 < n) (hn2:n < 4294967296) :
  Calls Tryz.prog 98 #[.int .u32 (a:Int),.int .u32 (b:Int),.int .u32 (n:Int)] w (Ret (Is (.int .u32 ((a * b % n:Nat):Int))) w):=by
 have hm:=mod_lt32 (a:=a * b) hn hn2
 have hS:=Sep.init w
 refine went Tryz.func98 rfl (n:=16) rfl rfl ?_
 refine wsr (wavc ?_)
 refine wn2 (wmv rfl rfl ?_)
 refine wl rfl (oCv (u:=.int .u32 (a:Int)) (v:=.int .u64 (a:Int)) rfl rfl (ev rfl rfl) (cvI Tryz.runUnderlying38 Tryz.runUnderlying69 (wU6 (by omega) (by omega))) ?_)
 refine wmv rfl rfl ?_
 refine wl rfl (oCv (u:=.int .u32 (b:Int)) (v:=.int .u64 (b:Int)) rfl rfl (ev rfl rfl) (cvI Tryz.runUnderlying38 Tryz.runUnderlying69 (wU6 (by omega) (by omega))) ?_)
 refine wbt (z:=.int .u64 ((a * b:Nat):Int)) rfl rfl rfl rfl (bin_mul (mul_u64 ha hb)) ?_
 refine wmv rfl rfl ?_
 refine wl rfl (oCv (u:=.int .u32 (n:Int)) (v:=.int .u64 (n:Int)) rfl rfl (ev rfl rfl) (cvI Tryz.runUnderlying38 Tryz.runUnderlying69 (wU6 (by omega) (by omega))) ?_)
 refine wbt (z:=.int .u64 ((a * b % n:Nat):Int)) rfl rfl rfl rfl (bin_rem (by omega) rfl) ?_
 refine wl rfl (oCv (u:=.int .u64 ((a * b % n:Nat):Int)) (v:=.int .u32 ((a * b % n:Nat):Int)) rfl rfl (ev rfl rfl) (cvI Tryz.runUnderlying69 Tryz.runUnderlying38 (wrap_u32 (by omega) (by omega))) ?_)
 refine wav rfl rfl ?_
 refine wn1 ?_
 refine wLv ?_
 refine wr1 Tryz.results98 (tlT (v:=.int .u32 ((a * b % n:Nat):Int)) rfl rfl) ?_
 exact ⟨_,_,rfl,isI,hS.new0⟩
theorem wpower {n:Nat} (hn:0 < n) (hn2:n < 4294967296) :
  ∀ (e:Nat),e < 18446744073709551616 → ∀ {a:Nat} {w:World},a < 4294967296 → Calls Tryz.prog 97 #[.int .u32 (a:Int),.int .u64 (e:Int),.int .u32 (n:Int)] w (Ret (Is (.int .u32 ((a ^ e % n:Nat):Int))) w):=by
 intro e
 induction e using Nat.strongRecOn with
 | _ e ih =>
 intro he a w ha
 have hS:=Sep.init w
 refine went Tryz.func97 rfl (n:=31) rfl rfl ?_
 refine wsr (wavc ?_)
 refine wn1 (wSq (wsr (wmv rfl rfl ?_)))
 by_cases he0:e = 0
 ·
  refine wbc rfl rfl (bEq (eqT (by omega))) ?_
  refine wn1 ?_
  refine wT (ev rfl rfl) ?_
  refine wsr (wmv rfl rfl ?_)
  refine wl rfl (obin (z:=.int .u32 ((1 % n:Nat):Int)) rfl rfl evc (ev rfl rfl) (bin_rem (by omega) rfl) ?_)
  refine wav rfl rfl ?_
  refine wn1 ?_
  refine wLv ?_
  refine thenR ?_
  refine wr1 Tryz.results97 (tlT (v:=.int .u32 ((1 % n:Nat):Int)) rfl rfl) ?_
  exact ⟨_,_,rfl,⟨by rw [he0]; rfl,rfl⟩,hS.new0⟩
 refine wbc rfl rfl (bEq (eqF (by omega))) ?_
 refine wn1 ?_
 refine wF (ev rfl rfl) ?_
 refine wSk (tNo (wsr (wmv rfl rfl ?_)))
 refine wmv rfl rfl ?_
 refine wbc (u:=.int .u64 (e:Int)) (v:=.int .u64 2) (z:=.int .u64 ((e / 2:Nat):Int)) rfl rfl (bin_quo (by decide) (by rw [show (e:Int).tdiv 2 = ((e / 2:Nat):Int) from rfl]; exact wU6 (by omega) (by omega))) ?_
 refine wmv rfl rfl ?_
 obtain ⟨h,hh⟩:∃ h:Nat,Hid (a ^ (e / 2) % n = h):=⟨_,rfl⟩
 have hlt:h < 4294967296:=by rw [← hh.out]; exact mod_lt32 hn hn2
 have hlt2:=mod_lt32 (a:=h * h) hn hn2
 have hlt3:=mod_lt32 (a:=a) hn hn2
 refine wcl Tryz.call97 ((show Calls _ _ _ _ (Ret (Is (.int .u32 (h:Int))) _) from by rw [← hh.out]; exact ih (e / 2) (by omega) (by omega) ha)) (args3 (ev rfl rfl) (ev rfl rfl) (ev rfl rfl)) hS ?_
 clear hS; rintro _ _ w1 ⟨rfl,rfl⟩ hS
 refine wav rfl rfl ?_
 refine wn2 (wmv rfl rfl ?_)
 refine wmv rfl rfl ?_
 refine wmv rfl rfl ?_
 refine wcl Tryz.call98 (wtimes hlt hlt hn hn2) (args3 (ev rfl rfl) (ev rfl rfl) (ev rfl rfl)) hS ?_
 clear hS; rintro _ _ w2 ⟨rfl,rfl⟩ hS
 refine wav rfl rfl ?_
 refine wn1 (wSq (wsr (wmv rfl rfl ?_)))
 refine wbc (u:=.int .u64 (e:Int)) (v:=.int .u64 2) (z:=.int .u64 ((e % 2:Nat):Int)) rfl rfl (bin_rem (by decide) rfl) ?_
 by_cases ho:e % 2 = 1
 ·
  refine wbc rfl rfl (bEq (eqT (by omega))) ?_
  refine wn1 ?_
  refine wT (ev rfl rfl) ?_
  refine wreg (wmv rfl rfl ?_)
  refine wmv rfl rfl ?_
  refine wmv rfl rfl ?_
  refine wbt (z:=.int .u32 ((a % n:Nat):Int)) rfl rfl rfl rfl (bin_rem (by omega) rfl) ?_
  refine wmv rfl rfl ?_
  refine wcl Tryz.call98 (wtimes hlt2 hlt3 hn hn2) (args3 (ev rfl rfl) (ev rfl rfl) (ev rfl rfl)) hS ?_
  clear hS; rintro _ _ w3 ⟨rfl,rfl⟩ hS
  refine wav rfl rfl ?_
  refine wn2 (wmv rfl rfl ?_)
  refine wav rfl rfl ?_
  refine wn1 ?_
  refine wLv ?_
  refine wr1 Tryz.results97 (tlT (v:=.int .u32 (((h * h % n * (a % n) % n:Nat):Int))) rfl rfl) ?_
  exact ⟨_,_,rfl,⟨by rw [← hh.out,pow_odd_mod ho],rfl⟩,hS.new0⟩
 refine wbc rfl rfl (bEq (eqF (by omega))) ?_
 refine wn1 ?_
 refine wF (ev rfl rfl) ?_
 refine wSk (tNo (wsr (wmv rfl rfl ?_)))
 refine wav rfl rfl ?_
 refine wn1 ?_
 refine wLv ?_
 refine wr1 Tryz.results97 (tlT (v:=.int .u32 ((h * h % n:Nat):Int)) rfl rfl) ?_
 exact ⟨_,_,rfl,⟨by rw [← hh.out,pow_even_mod (by omega)],rfl⟩,hS.new0⟩
theorem winverse {a p:Nat} {w:World} (hp:MR.Pr p) (hp2:p < 4294967296) (ha2:a < 4294967296) (ha:¬ p ∣ a) :
  Calls Tryz.prog 102 #[.int .u32 (a:Int),.int .u32 (p:Int)] w (Ret (Is (.int .u32 ((a ^ (p - 2) % p:Nat):Int))) w):=by
 have h2:=hp.1
 have hm:=Nat.mod_lt a (show 0 < p by omega)
 have hS:=Sep.init w
 refine went Tryz.func102 rfl (n:=41) rfl rfl ?_
 refine wsr (wavc ?_)
 refine wn1 ?_
 refine wscope ?_
 refine wSq ?_
 refine wSg 8 [10,11,12,13,14,15,5,6] [[],[0],[],[],[2,3],[4,2,3],[1,0],[5,0,1,2,3,4,6]] [] [] [] (fun i9 => ([iSv (.int .u32 (p:Int)),iSv (.int .i64 (p:Int)),iSv (.int .u32 (a:Int)),iSv (.int .u32 (p:Int)),iSv (.int .u32 ((a % p:Nat):Int)),iSv (.int .i64 ((a % p:Nat):Int)),iSv (.int .i64 (p:Int)),iSv (.int .i64 ((a % p:Nat):Int))]:List (List Value → Tell)).getD i9 (fun _ _ _ => False)) hNi (fun d _ _ _ _ h => (by cases d <;> exact h)) (by kernel_rfl) (by kernel_rfl) (by kernel_rfl) hS ?_ ?_
 ·
  refine stM rfl rfl rfl rfl rfl (fun _=>isI) ?_
  refine stT rfl (fun hT hS=>?_) ?_
  ·obtain ⟨hv0,hr0⟩:=hT 0 10 rfl rfl
   obtain hS:=hS.flat1 hr0
   exact inNo rfl (oCv (u:=.int .u32 (p:Int)) (v:=.int .i64 (p:Int)) rfl rfl (ev rfl hv0) (cvI Tryz.runUnderlying38 Tryz.runUnderlying2 (wI6 (by omega) (by omega))) (nSm rfl isI))
  refine stM rfl rfl rfl rfl rfl (fun _=>isI) ?_
  refine stM rfl rfl rfl rfl rfl (fun _=>isI) ?_
  refine stT rfl (fun hT hS=>?_) ?_
  ·obtain ⟨hv2,hr2⟩:=hT 2 12 rfl rfl
   obtain ⟨hv3,hr3⟩:=hT 3 13 rfl rfl
   obtain hS:=hS.flat2 hr2 hr3
   exact inNo rfl (obin (z:=.int .u32 ((a % p:Nat):Int)) rfl rfl (ev rfl hv2) (ev rfl hv3) (bin_rem (by omega) rfl) (nSm rfl isI))
  refine stT rfl (fun hT hS=>?_) ?_
  ·obtain ⟨hv4,hr4⟩:=hT 4 14 rfl rfl
   obtain hS:=hS.flat1 hr4
   exact inNo rfl (oCv (u:=.int .u32 ((a % p:Nat):Int)) (v:=.int .i64 ((a % p:Nat):Int)) rfl rfl (ev rfl hv4) (cvI Tryz.runUnderlying38 Tryz.runUnderlying2 (wI6 (by omega) (by omega))) (nSm rfl isI))
  refine stT rfl (fun hT hS=>?_) ?_
  ·obtain ⟨hv1,hr1⟩:=hT 1 11 rfl rfl
   obtain hS:=hS.flat1 hr1
   exact inNo rfl (oassign rfl rfl (ev rfl hv1) (nSm rfl isI))
  refine stT rfl (fun hT hS=>?_) ?_
  ·obtain ⟨hv5,hr5⟩:=hT 5 15 rfl rfl
   obtain hS:=hS.flat1 hr5
   exact inNo rfl (oassign rfl rfl (ev rfl hv5) (nSm rfl isI))
  exact sNi
 intro vs ρ w1 f' hf hT hS
 obtain ⟨hv0,hr0⟩:=hT 0 (by decide)
 obtain ⟨hv1,hr1⟩:=hT 1 (by decide)
 obtain ⟨hv2,hr2⟩:=hT 2 (by decide)
 obtain ⟨hv3,hr3⟩:=hT 3 (by decide)
 obtain ⟨hv4,hr4⟩:=hT 4 (by decide)
 obtain ⟨hv5,hr5⟩:=hT 5 (by decide)
 obtain ⟨hv6,hr6⟩:=hT 6 (by decide)
 obtain ⟨hv7,hr7⟩:=hT 7 (by decide)
 simp only [pool,if_true,hr0,hr1,hr2,hr3,hr4,hr5,hr6,hr7,List.nil_append,List.cons_append,List.append_nil] at hS
 simp only [layf,hv0,hv1,hv2,hv3,hv4,hv5,hv6,hv7] at hf
 subst hf; clear hT hv0 hv1 hv2 hv3 hv4 hv5 hv6 hv7 hr0 hr1 hr2 hr3 hr4 hr5 hr6 hr7
 refine wdone rfl ?_
 refine tNo (wsr (wavc ?_))
 refine wavc ?_
 refine wn1 (wSq (wlabel (tNo (wSq (wBk ?_)))))
 refine wLp (σ := Nat) (fun s a9 w' => ∃ (fb:Nat → Value) (r:Nat) (x:Int) (y:Int),a9 = act 41 (sets fb [(1,.int .u32 (p:Int)),(4,.int .u32 0),(5,.int .i64 (r:Int)),(6,.int .i64 (s:Int)),(7,.int .i64 x),(8,.int .i64 y)]) ∧ Sep w [] w' ∧ (EInv p a r s x y)) (fun s => s) ((a % p)) ⟨_,p,0,1,aSs ⟨rfl,rfl,rfl,rfl,rfl,rfl,trivial⟩,hS,EInv.init hp ha⟩ ?_
 clear hS; rintro s _ w2 ⟨fb,r,x,y,rfl,hS,hE⟩
 refine wBk (wSq (wsr (wmv rfl rfl ?_)))
 by_cases hs0:s = 0
 ·
  refine wbc rfl rfl (bEq (eqT (by omega))) ?_
  refine wn1 ?_
  refine wT (ev rfl rfl) ?_
  refine wEx ?_
  refine tEx ?_
  refine blkX rfl ?_
  refine tEx ?_
  refine blkE ?_
  refine tNo (wsr (wmv rfl rfl ?_))
  refine wmv rfl rfl ?_
  obtain rfl:=hs0
  have hb:=hE.bd
  have hd:=hE.done hp ha
  have hm2:=Nat.mod_lt (a ^ (p - 2)) (show 0 < p by omega)
  refine wl rfl (oCv (u:=.int .u32 (p:Int)) (v:=.int .i64 (p:Int)) rfl rfl (ev rfl rfl) (cvI Tryz.runUnderlying38 Tryz.runUnderlying2 (wI6 (by omega) (by omega))) ?_)
  refine wbt (z:=.int .i64 ((x + (p:Int)))) rfl rfl rfl rfl (bAd (wI6 (by omega) (by omega))) ?_
  refine wmv rfl rfl ?_
  refine wl rfl (oCv (u:=.int .u32 (p:Int)) (v:=.int .i64 (p:Int)) rfl rfl (ev rfl rfl) (cvI Tryz.runUnderlying38 Tryz.runUnderlying2 (wI6 (by omega) (by omega))) ?_)
  refine wbt (z:=.int .i64 (((a ^ (p - 2) % p:Nat):Int))) rfl rfl rfl rfl (bin_rem (by omega) hd) ?_
  refine wl rfl (oCv (u:=.int .i64 (((a ^ (p - 2) % p:Nat):Int))) (v:=.int .u32 (((a ^ (p - 2) % p:Nat):Int))) rfl rfl (ev rfl rfl) (cvI Tryz.runUnderlying2 Tryz.runUnderlying38 (wrap_u32 (by omega) (by omega))) ?_)
  refine wav rfl rfl ?_
  refine wn1 ?_
  refine wLv ?_
  refine scR ?_
  refine wr1 Tryz.results102 (tlT (v:=.int .u32 (((a ^ (p - 2) % p:Nat):Int))) rfl rfl) ?_
  exact ⟨_,_,rfl,isI,hS.new0⟩
 refine wbc rfl rfl (bEq (eqF (by omega))) ?_
 refine wn1 ?_
 refine wF (ev rfl rfl) ?_
 refine wSk (tNo (wsr (wmv rfl rfl ?_)))
 refine wmv rfl rfl ?_
 obtain ⟨hE2,hq1,hq2⟩:=hE.next hs0
 have hb:=hE.bd
 have hrp:=hE.rp
 have hsp:=hE.sp
 have hdm:=Nat.mod_add_div r s
 have hcm:r / s * s = s * (r / s):=Nat.mul_comm _ _
 have hrs:=Nat.mod_lt r (show 0 < s by omega)
 refine wbt (z:=.int .i64 ((r / s:Nat):Int)) rfl rfl rfl rfl (bin_quo (by omega) (by rw [show (r:Int).tdiv (s:Int) = ((r / s:Nat):Int) from rfl]; exact wrapN_i64 (Nat.lt_of_le_of_lt (Nat.div_le_self r s) (by omega)))) ?_
 refine wav rfl rfl ?_
 refine wn2 (wmv rfl rfl ?_)
 refine wmv rfl rfl ?_
 refine wmv rfl rfl ?_
 refine wmv rfl rfl ?_
 refine wbt (z:=.int .i64 ((r / s * s:Nat):Int)) rfl rfl rfl rfl (bin_mul ((by rw [← Int.natCast_mul]; exact wI6 (by omega) (by omega)))) ?_
 refine wbt (z:=.int .i64 ((r % s:Nat):Int)) rfl rfl rfl rfl (bin_sub ((by rw [show ((r:Int) - ((r / s * s:Nat):Int)) = ((r % s:Nat):Int) by omega]; exact wI6 (by omega) (by omega)))) ?_
 refine wav rfl rfl ?_
 refine wav rfl rfl ?_
 refine wn1 (wreg (wmv rfl rfl ?_))
 refine wmv rfl rfl ?_
 refine wmv rfl rfl ?_
 refine wmv rfl rfl ?_
 refine wbt (z:=.int .i64 ((((r / s:Nat):Int) * y))) rfl rfl rfl rfl (bin_mul (wI6 (by omega) (by omega))) ?_
 refine wbt (z:=.int .i64 ((x - ((r / s:Nat):Int) * y))) rfl rfl rfl rfl (bin_sub (wI6 (by omega) (by omega))) ?_
 refine wav rfl rfl ?_
 refine wav rfl rfl ?_
 refine wnil (blkN (tNo ?_))
 exact ⟨(r % s),⟨_,_,_,_,aSs ⟨rfl,rfl,rfl,rfl,rfl,rfl,trivial⟩,hS.pick [] (by decide) rfl,hE2⟩,by omega⟩
theorem parts7 {a:Act} {x0 x1 x2 x3 x4 x5 x6:Operand} {u0 u1 u2 u3 u4 u5 u6:Value} {i0 i1 i2 i3 i4 i5 i6:Nat} (h0:a.eval x0 = u0) (h1:a.eval x1 = u1) (h2:a.eval x2 = u2) (h3:a.eval x3 = u3) (h4:a.eval x4 = u4) (h5:a.eval x5 = u5) (h6:a.eval x6 = u6):(#[(i0,x0),(i1,x1),(i2,x2),(i3,x3),(i4,x4),(i5,x5),(i6,x6)].map fun (i,x) => (i,a.eval x)) = #[(i0,u0),(i1,u1),(i2,u2),(i3,u3),(i4,u4),(i5,u5),(i6,u6)]:=by simp [h0,h1,h2,h3,h4,h5,h6]
theorem sp_at:∀ i,i < 7 → ([.int .u32 2,.int .u32 3,.int .u32 5,.int .u32 7,.int .u32 11,.int .u32 13,.int .u32 61]:List Value)[i]? = some (.int .u32 ((spL.getD i 0:Nat):Int))
  | 0,_ => rfl | 1,_ => rfl | 2,_ => rfl | 3,_ => rfl | 4,_ => rfl | 5,_ => rfl | 6,_ => rfl | _ + 7,h => by omega
theorem bs_at:∀ i,i < 3 → ([.int .u32 2,.int .u32 7,.int .u32 61]:List Value)[i]? = some (.int .u32 ((bsL.getD i 0:Nat):Int))
  | 0,_ => rfl | 1,_ => rfl | 2,_ => rfl | _ + 3,h => by omega
theorem bases_cells {w:World} (h:Bases w):∀ j v,([.int .u32 2,.int .u32 7,.int .u32 61]:List Value)[j]? = some v → w.cell? ⟨0,0 + j,none⟩ = some v
  | 0,v,hv => by rw [h 0 2 rfl]; exact hv
  | 1,v,hv => by rw [h 1 7 rfl]; exact hv
  | 2,v,hv => by rw [h 2 61 rfl]; exact hv
  | _ + 3,v,hv => by simp at hv
theorem sp_lt {i:Nat} (h:i < 7):2 ≤ spL.getD i 0 ∧ spL.getD i 0 < 62:=by
  have:∀ i,i < 7 → 2 ≤ spL.getD i 0 ∧ spL.getD i 0 < 62:=by decide
  exact this i h
theorem bs_lt {i:Nat} (h:i < 3):2 ≤ bsL.getD i 0 ∧ bsL.getD i 0 < 62:=by
  have:∀ i,i < 3 → 2 ≤ bsL.getD i 0 ∧ bsL.getD i 0 < 62:=by decide
  exact this i h
def NoSp (n i:Nat):Prop := ∀ j,j < i → ¬ spL.getD j 0 ∣ n
theorem NoSp.all {n:Nat} (h:NoSp n 7):¬ 2 ∣ n ∧ ¬ 3 ∣ n ∧ ¬ 5 ∣ n ∧ ¬ 7 ∣ n ∧ ¬ 11 ∣ n ∧ ¬ 13 ∣ n ∧ ¬ 61 ∣ n :=
  ⟨h 0 (by omega),h 1 (by omega),h 2 (by omega),h 3 (by omega),h 4 (by omega),h 5 (by omega),h 6 (by omega)⟩
theorem NoSp.bs {n j:Nat} (h:NoSp n 7) (hn:2 ≤ n) (hj:j < 3) (hp:MR.Pr n):¬ n ∣ bsL.getD j 0:=fun hd => by
 obtain ⟨h2,_,_,h7,_,_,h61⟩:=h.all
 match j,hj with
 | 0,_ =>
  have hl:n ≤ 2:=Nat.le_of_dvd (by decide) hd
  obtain rfl:n = 2:=by omega
  exact h2 ⟨1,rfl⟩
 | 1,_ =>
  have p7:=spL_pr (i:=3) (by omega)
  rcases p7.2 n hd with e | e
  ·omega
  exact h7 (by rw [e]; exact Nat.dvd_refl _)
 | 2,_ =>
  have p61:=spL_pr (i:=6) (by omega)
  rcases p61.2 n hd with e | e
  ·omega
  exact h61 (by rw [e]; exact Nat.dvd_refl _)
def AllS (n j:Nat):Prop := ∀ i,i < j → MR.Strong (bsL.getD i 0) n
theorem is_end {n:Nat} (h1:1 < n) (hlt:n < 4294967296) (hs:NoSp n 7) (ha:AllS n 3):MR.Pr n:=by
  obtain ⟨h2,h3,h5,h7,h11,h13,h61⟩:=hs.all
  exact MR.prime_of h1 hlt h2 h3 h5 h7 h11 h13 h61 (ha 0 (by omega)) (ha 1 (by omega)) (ha 2 (by omega))
theorem AllS.next {n j:Nat} (h:AllS n j) (hs:MR.Strong (bsL.getD j 0) n):AllS n (j + 1):=fun i hi => by
  by_cases e:i = j
  · rw [e]; exact hs
  exact h i (by omega)
theorem shr_u64w (a k:Nat) (hk:k < 64):((a:Nat):Int).fdiv (2 ^ (min ((k:Nat):Int).toNat IntKind.u64.bits)) = ((a / 2 ^ k:Nat):Int):=by
  rw [show min ((k:Nat):Int).toNat IntKind.u64.bits = k by show min ((k:Nat):Int).toNat 64 = k; omega,Int.fdiv_eq_ediv_of_nonneg _ (Int.le_of_lt (Int.pow_pos (by omega)))]
  rw [Int.natCast_ediv,Int.natCast_pow]; rfl
theorem sq_step {b d k n X:Nat} (h:b ^ (d * 2 ^ k) % n = X):b ^ (d * 2 ^ (k + 1)) % n = X * X % n:=by
  rw [← h, ← Nat.mul_mod, ← Nat.pow_add]
  congr 2
  rw [Nat.pow_succ, ← Nat.mul_assoc]; omega
theorem wpis {n : Nat} {w : World} (hp2 : n < 4294967296) (ht : Tb w) {b : Bool} (hb : b = true ↔ MR.Pr n) :
    Calls Tryz.prog 68 #[.int .u32 (n:Int)] w (Ret (Is (.bool b)) w):=by
  have hS:=Sep.init w
  refine went Tryz.func68 rfl (n:=62) rfl rfl ?_
  refine wsr (wavc ?_)
  refine wn1 ?_
  refine wscope ?_
  refine wSq (wsr (wmv rfl rfl ?_))
  by_cases hn2:n < 2
  ·
    refine wbc rfl rfl (bLs (decide_eq_true (by omega))) ?_
    refine wn1 ?_
    refine wT (ev rfl rfl) ?_
    refine wsr (wavc ?_)
    refine wn1 ?_
    refine wLv ?_
    refine thenR ?_
    refine scR ?_
    have hbv:b = false:=by
      cases hbb:b with
      | false => rfl
      | true =>
        exfalso
        have hpr:=hb.1 hbb
        have:=hpr.1; omega
    refine wr1 Tryz.results68 (tlT (v:=.bool false) rfl rfl) ?_
    exact ⟨_,_,rfl,⟨by rw [hbv],rfl⟩,hS.new0⟩
  refine wbc rfl rfl (bLs (decide_eq_false (by omega))) ?_
  refine wn1 ?_
  refine wF (ev rfl rfl) ?_
  refine wSk (tNo (wSq (wsr (wl rfl (obuild (ps:=#[(0,.int .u32 2),(1,.int .u32 3),(2,.int .u32 5),(3,.int .u32 7),(4,.int .u32 11),(5,.int .u32 13),(6,.int .u32 61)]) (v:=.agg #[.int .u32 2,.int .u32 3,.int .u32 5,.int .u32 7,.int .u32 11,.int .u32 13,.int .u32 61]) rfl rfl (parts7 (evc (v:=.int .u32 2)) (evc (v:=.int .u32 3)) (evc (v:=.int .u32 5)) (evc (v:=.int .u32 7)) (evc (v:=.int .u32 11)) (evc (v:=.int .u32 13)) (evc (v:=.int .u32 61))) (fun w => by simp [go_sem,Instr.build,Instr.fill]) ?_)))))
  refine wmvc ?_
  refine wn1 (wBk ?_)
  have h2:2 ≤ n:=by omega
  refine wLp (σ := Nat) (fun i a9 w' => ∃ (fb:Nat → Value),a9 = act 62 (sets fb [(0,.int .u32 (n:Int)),(12,.agg #[.int .u32 2,.int .u32 3,.int .u32 5,.int .u32 7,.int .u32 11,.int .u32 13,.int .u32 61]),(13,.int .i64 (i:Int))]) ∧ Sep w [] w' ∧ (i ≤ 7) ∧ (NoSp n i)) (fun i => 7 - i) (0) ⟨_,aSs ⟨rfl,rfl,rfl,trivial⟩,hS,by omega,fun j h => by omega⟩ ?_
  clear hS; rintro i _ w1 ⟨fb,rfl,hS,hi,hs⟩
  refine wsr ?_
  by_cases hi7:i < 7
  ·
    refine wbc rfl rfl (bLs (decide_eq_true (by omega))) ?_
    refine wn1 (wSq ?_)
    refine wT (ev rfl rfl) ?_
    refine wk2 ?_
    have hq:=sp_lt hi7
    have hqp:=spL_pr hi7
    refine wl rfl (oidx (cs:=[.int .u32 2,.int .u32 3,.int .u32 5,.int .u32 7,.int .u32 11,.int .u32 13,.int .u32 61]) (k:=i) (v:=.int .u32 ((spL.getD i 0:Nat):Int)) rfl rfl Tryz.runUnderlying119 Tryz.sizeOf38 Tryz.isAgg38 (ev rfl rfl) (ev rfl rfl) (sp_at i hi7) ((by omega)) ?_)
    refine wav rfl rfl ?_
    refine wn2 (wmv rfl rfl ?_)
    refine wmv rfl rfl ?_
    refine wbt (z:=.int .u32 ((n % spL.getD i 0:Nat):Int)) rfl rfl rfl rfl (bin_rem (by omega) rfl) ?_
    by_cases hd:n % spL.getD i 0 = 0
    ·
      refine wbc rfl rfl (bEq (eqT (by omega))) ?_
      refine wn1 ?_
      refine wT (ev rfl rfl) ?_
      refine wsr (wmv rfl rfl ?_)
      refine wmv rfl rfl ?_
      have hdv:=Nat.dvd_of_mod_eq_zero hd
      by_cases he:n = spL.getD i 0
      ·
        refine wbt rfl rfl rfl rfl (bEq (eqT (by omega))) ?_
        refine wav rfl rfl ?_
        refine wn1 ?_
        refine wLv ?_
        refine blkR ?_
        refine thenR ?_
        refine thenR ?_
        refine blkR ?_
        refine thenR ?_
        refine scR ?_
        have hbv:b = true:=hb.2 (by rw [he]; exact hqp)
        refine wr1 Tryz.results68 (tlT (v:=.bool true) rfl rfl) ?_
        exact ⟨_,_,rfl,⟨by rw [hbv],rfl⟩,hS.new0⟩
      refine wbt rfl rfl rfl rfl (bEq (eqF (by omega))) ?_
      refine wav rfl rfl ?_
      refine wn1 ?_
      refine wLv ?_
      refine blkR ?_
      refine thenR ?_
      refine thenR ?_
      refine blkR ?_
      refine thenR ?_
      refine scR ?_
      have hbv:b = false:=by
        cases hbb:b with
        | false => rfl
        | true =>
          exfalso
          have hpr:=hb.1 hbb
          rcases hpr.2 _ hdv with h | h
          · omega
          exact he h.symm
      refine wr1 Tryz.results68 (tlT (v:=.bool false) rfl rfl) ?_
      exact ⟨_,_,rfl,⟨by rw [hbv],rfl⟩,hS.new0⟩
    refine wbc rfl rfl (bEq (eqF (by omega))) ?_
    refine wn1 ?_
    refine wF (ev rfl rfl) ?_
    refine wSk (blkN (tNo (wreg (wbc (z:=.int .i64 ((i + 1:Nat):Int)) rfl rfl (bAd (wI6 (by omega) (by omega))) ?_))))
    refine wmv rfl rfl ?_
    refine wn1 ?_
    exact ⟨(i + 1), ⟨_, aSs (l := [(0, .int .u32 (n : Int)), (12, .agg #[.int .u32 2, .int .u32 3, .int .u32 5, .int .u32 7, .int .u32 11, .int .u32 13, .int .u32 61]), (13, .int .i64 (((i + 1 : Nat) : Int)))]) ⟨rfl, rfl, rfl, trivial⟩, hS.pick [] (by decide) rfl, by omega, fun j hj hdv => by
              by_cases e:j = i
              · exact hd (e ▸ Nat.mod_eq_zero_of_dvd hdv)
              exact hs j (by omega) hdv⟩,by omega⟩
  refine wbc rfl rfl (bLs (decide_eq_false (by omega))) ?_
  refine wn1 (wSq ?_)
  refine wF (ev rfl rfl) ?_
  refine wEx ?_
  refine tEx ?_
  refine tEx ?_
  refine blkE ?_
  refine tNo (wsr (wmv rfl rfl ?_))
  obtain rfl:i = 7:=by omega
  obtain ⟨k,m,hkm⟩:=odd_part (n - 1) (by omega)
  have n2:=hs.all.1
  obtain ⟨hk32,_,_⟩:=tz_facts hkm (by omega)
  have hk0:0 < k:=by
    rcases Nat.eq_zero_or_pos k with h | h
    · exfalso; rw [h,Nat.pow_zero] at hkm; omega
    exact h
  have hkp:=Nat.two_pow_pos k
  have hkm2:n - 1 = (2 * m + 1) * 2 ^ k:=by rw [hkm,Nat.mul_comm]
  have hdv:(n - 1) / 2 ^ k = 2 * m + 1:=by rw [hkm2,Nat.mul_div_cancel _ hkp]
  have hml:2 * m + 1 ≤ n - 1:=by rw [← hdv]; exact Nat.div_le_self _ _
  refine wbc (z:=.int .u32 ((n - 1:Nat):Int)) rfl rfl (bin_sub ((by rw [show (n:Int) - 1 = ((n - 1:Nat):Int) by omega]; exact wrap_u32 (by omega) (by omega)))) ?_
  refine wcl Tryz.call96 (wtz (ht.at hS).tab hkm (by omega)) (ar1 (ev rfl rfl)) hS ?_
  clear hS; rintro _ _ w2 ⟨rfl,rfl⟩ hS
  refine wav rfl rfl ?_
  refine wn2 (wmv rfl rfl ?_)
  refine wbc (z:=.int .u32 ((n - 1:Nat):Int)) rfl rfl (bin_sub ((by rw [show (n:Int) - 1 = ((n - 1:Nat):Int) by omega]; exact wrap_u32 (by omega) (by omega)))) ?_
  refine wl rfl (oCv (u:=.int .u32 ((n - 1:Nat):Int)) (v:=.int .u64 ((n - 1:Nat):Int)) rfl rfl (ev rfl rfl) (cvI Tryz.runUnderlying38 Tryz.runUnderlying69 (wU6 (by omega) (by omega))) ?_)
  refine wmv rfl rfl ?_
  refine wbt (z:=.int .u64 ((2 * m + 1:Nat):Int)) rfl rfl rfl rfl (bin_shr (by omega) ((shr_u64w _ _ (by omega)).trans (by rw [hdv]))) ?_
  refine wav rfl rfl ?_
  refine wn1 (wSq (wlabel (tNo (wSq (wsr (wl rfl (oloadA ⟨Tryz.isAgg121,Tryz.sizeOf121⟩ rfl rfl evg (fun j v hj => bases_cells (ht.at hS).bas j v hj) rfl ?_)))))))
  refine wmvc ?_
  refine wn1 (wBk ?_)
  refine wLp (σ := Nat) (fun j a9 w' => ∃ (fb:Nat → Value),a9 = act 62 (sets fb [(0,.int .u32 (n:Int)),(5,.int .i64 (k:Int)),(6,.int .u64 ((2 * m + 1:Nat):Int)),(32,.agg #[.int .u32 2,.int .u32 7,.int .u32 61]),(33,.int .i64 (j:Int))]) ∧ Sep w [] w' ∧ (j ≤ 3) ∧ (AllS n j)) (fun j => 3 - j) (0) ⟨_,aSs ⟨rfl,rfl,rfl,rfl,rfl,trivial⟩,hS,by omega,fun i h => by omega⟩ ?_
  clear hS; rintro j _ w3 ⟨fb,rfl,hS,hj,ha⟩
  refine wsr ?_
  by_cases hj3:j < 3
  ·
    refine wbc rfl rfl (bLs (decide_eq_true (by omega))) ?_
    refine wn1 (wSq ?_)
    refine wT (ev rfl rfl) ?_
    refine wk2 ?_
    have hlt3:=bs_lt (i:=j) (by omega)
    refine wl rfl (oidx (cs:=[.int .u32 2,.int .u32 7,.int .u32 61]) (k:=j) (v:=.int .u32 ((bsL.getD j 0:Nat):Int)) rfl rfl Tryz.runUnderlying121 Tryz.sizeOf38 Tryz.isAgg38 (ev rfl rfl) (ev rfl rfl) (bs_at j (by omega)) ((by omega)) ?_)
    refine wav rfl rfl ?_
    refine wn2 (wmv rfl rfl ?_)
    refine wmv rfl rfl ?_
    refine wmv rfl rfl ?_
    obtain ⟨Y,hY⟩:∃ Y:Nat,Hid (bsL.getD j 0 ^ (2 * m + 1) % n = Y):=⟨_,rfl⟩
    have hYl:Y < n:=by rw [← hY.out]; exact Nat.mod_lt _ (by omega)
    refine wcl Tryz.call97 ((show Calls _ _ _ _ (Ret (Is (.int .u32 (Y:Int))) _) from by rw [← hY.out]; exact wpower (by omega) hp2 _ (by omega) (by omega))) (args3 (ev rfl rfl) (ev rfl rfl) (ev rfl rfl)) hS ?_
    clear hS; rintro _ _ w4 ⟨rfl,rfl⟩ hS
    refine wav rfl rfl ?_
    refine wn1 (wSq (wsr (wmv rfl rfl ?_)))
    by_cases hY1:Y = 1
    ·
      refine wbc rfl rfl (bEq (eqT (by omega))) ?_
      refine wmv rfl rfl ?_
      refine wlOff (e:=42) (d:=43) (b':=true) rfl rfl rfl rfl rfl rfl ?_
      refine wlOff (e:=42) (d:=44) (b':=true) rfl rfl rfl rfl rfl rfl ?_
      refine wlOff (e:=42) (d:=45) (b':=true) rfl rfl rfl rfl rfl rfl ?_
      refine wlOff (e:=42) (d:=46) (b':=true) rfl rfl rfl rfl rfl rfl ?_
      refine wl rfl (opick rfl rfl (ev rfl rfl) evc ?_)
      refine wn1 ?_
      refine wT (ev rfl rfl) ?_
      refine wEx ?_
      refine tEx ?_
      refine blkE ?_
      refine tNo (wreg ?_)
      have hst:MR.Strong (bsL.getD j 0) n:=⟨2 * m + 1,k,hkm2,by omega,.inl (hY.out.trans hY1)⟩
      refine wbc (z:=.int .i64 ((j + 1:Nat):Int)) rfl rfl (bAd (wI6 (by omega) (by omega))) ?_
      refine wmv rfl rfl ?_
      refine wn1 ?_
      exact ⟨(j + 1),⟨_,aSs ⟨rfl,rfl,rfl,rfl,rfl,trivial⟩,hS.pick [] (by decide) rfl,by omega,ha.next hst⟩,by omega⟩
    refine wbc rfl rfl (bEq (eqF (by omega))) ?_
    refine wmv rfl rfl ?_
    refine wlOn (e:=42) rfl rfl rfl rfl (omove rfl rfl (ev rfl rfl) ?_)
    refine wlOn (e:=42) rfl rfl rfl rfl (omove rfl rfl (ev rfl rfl) ?_)
    refine wlOn (e:=42) rfl rfl rfl rfl (obin (z:=.int .u32 ((n - 1:Nat):Int)) rfl rfl (ev rfl rfl) evc (bin_sub ((by rw [show (n:Int) - 1 = ((n - 1:Nat):Int) by omega]; exact wrap_u32 (by omega) (by omega)))) ?_)
    by_cases hYn:Y = n - 1
    ·
      refine wlOn (e:=42) rfl rfl rfl rfl (obin rfl rfl (ev rfl rfl) (ev rfl rfl) (bEq (eqT (by omega))) ?_)
      refine wl rfl (opick rfl rfl (ev rfl rfl) (ev rfl rfl) ?_)
      refine wn1 ?_
      refine wT (ev rfl rfl) ?_
      refine wEx ?_
      refine tEx ?_
      refine blkE ?_
      refine tNo (wreg ?_)
      have hst:MR.Strong (bsL.getD j 0) n:=⟨2 * m + 1,k,hkm2,by omega,.inr ⟨0,by omega,by rw [Nat.pow_zero,Nat.mul_one]; exact hY.out.trans hYn⟩⟩
      refine wbc (z:=.int .i64 ((j + 1:Nat):Int)) rfl rfl (bAd (wI6 (by omega) (by omega))) ?_
      refine wmv rfl rfl ?_
      refine wn1 ?_
      exact ⟨(j + 1),⟨_,aSs ⟨rfl,rfl,rfl,rfl,rfl,trivial⟩,hS.pick [] (by decide) rfl,by omega,ha.next hst⟩,by omega⟩
    refine wlOn (e:=42) rfl rfl rfl rfl (obin rfl rfl (ev rfl rfl) (ev rfl rfl) (bEq (eqF (by omega))) ?_)
    refine wl rfl (opick rfl rfl (ev rfl rfl) (ev rfl rfl) ?_)
    refine wn1 ?_
    refine wF (ev rfl rfl) ?_
    refine wSk (tNo (wSq (wsr (wmv rfl rfl ?_))))
    refine wbc (z:=.int .i64 ((k - 1:Nat):Int)) rfl rfl (bin_sub ((by rw [show (k:Int) - 1 = ((k - 1:Nat):Int) by omega]; exact wI6 (by omega) (by omega)))) ?_
    refine wmvc ?_
    refine wn1 (wBk ?_)
    have hX0:Hid (bsL.getD j 0 ^ ((2 * m + 1) * 2 ^ 0) % n = Y):=by show _ = _; rw [Nat.pow_zero,Nat.mul_one]; exact hY.out
    have hne0:∀ i,i ≤ 0 → bsL.getD j 0 ^ ((2 * m + 1) * 2 ^ i) % n ≠ n - 1:=fun i hi h => by
      obtain rfl:i = 0:=by omega
      exact hYn (hX0.out.symm.trans h)
    refine wLp (σ := Nat) (fun t a9 w' => ∃ (fb:Nat → Value) (X:Nat),a9 = act 62 (sets fb [(0,.int .u32 (n:Int)),(5,.int .i64 (k:Int)),(6,.int .u64 ((2 * m + 1:Nat):Int)),(8,.int .u32 ((bsL.getD j 0:Nat):Int)),(9,.int .u32 (X:Int)),(32,.agg #[.int .u32 2,.int .u32 7,.int .u32 61]),(33,.int .i64 (j:Int)),(34,.bool true),(35,.int .u32 ((bsL.getD j 0:Nat):Int)),(36,.int .u32 ((bsL.getD j 0:Nat):Int)),(37,.int .u64 ((2 * m + 1:Nat):Int)),(38,.int .u32 (n:Int)),(39,.int .u32 (Y:Int)),(40,.int .u32 (Y:Int)),(41,.bool false),(42,.bool false),(43,.int .u32 (Y:Int)),(44,.int .u32 (n:Int)),(45,.int .u32 ((n - 1:Nat):Int)),(46,.bool false),(47,.bool false),(48,.int .i64 (k:Int)),(49,.int .i64 ((k - 1:Nat):Int)),(50,.int .i64 (t:Int))]) ∧ Sep w [] w' ∧ (t ≤ k - 1) ∧ (Hid (bsL.getD j 0 ^ ((2 * m + 1) * 2 ^ t) % n = X)) ∧ (∀ i,i ≤ t → bsL.getD j 0 ^ ((2 * m + 1) * 2 ^ i) % n ≠ n - 1)) (fun t => k - 1 - t) (0) ⟨_,_,aSs ⟨rfl,rfl,rfl,rfl,rfl,rfl,rfl,rfl,rfl,rfl,rfl,rfl,rfl,rfl,rfl,rfl,rfl,rfl,rfl,rfl,rfl,rfl,rfl,rfl,trivial⟩,hS,by omega,hX0,hne0⟩ ?_
    clear hS; rintro t _ w5 ⟨fb,X,rfl,hS,ht3,hX,hne⟩
    refine wsr ?_
    by_cases htk:t < k - 1
    ·
      refine wbt rfl rfl rfl rfl (bLs (decide_eq_true (by omega))) ?_
      refine wn1 (wSq ?_)
      refine wT (ev rfl rfl) ?_
      refine wk2 (wmv rfl rfl ?_)
      refine wmv rfl rfl ?_
      refine wmv rfl rfl ?_
      have hXl:X < n:=by rw [← hX.out]; exact Nat.mod_lt _ (by omega)
      have hsq:=sq_step hX.out
      refine wcl Tryz.call98 (wtimes (by omega) (by omega) (by omega) hp2) (args3 (ev rfl rfl) (ev rfl rfl) (ev rfl rfl)) hS ?_
      clear hS; rintro _ _ w6 ⟨rfl,rfl⟩ hS
      refine wav rfl rfl ?_
      refine wn2 (wmv rfl rfl ?_)
      refine wmv rfl rfl ?_
      refine wbc (z:=.int .u32 ((n - 1:Nat):Int)) rfl rfl (bin_sub ((by rw [show (n:Int) - 1 = ((n - 1:Nat):Int) by omega]; exact wrap_u32 (by omega) (by omega)))) ?_
      have hml:=Nat.mod_lt (X * X) (show 0 < n by omega)
      by_cases hXn:X * X % n = n - 1
      ·
        refine wbt rfl rfl rfl rfl (bEq (eqT (by omega))) ?_
        refine wn1 ?_
        refine wT (ev rfl rfl) ?_
        refine wEx ?_
        refine blkX rfl ?_
        refine tEx ?_
        refine tEx ?_
        refine blkX rfl ?_
        refine tEx ?_
        refine blkE ?_
        refine tNo (wreg ?_)
        have hst:MR.Strong (bsL.getD j 0) n:=⟨2 * m + 1,k,hkm2,by omega,.inr ⟨t + 1,by omega,hsq.trans hXn⟩⟩
        refine wbc (z:=.int .i64 ((j + 1:Nat):Int)) rfl rfl (bAd (wI6 (by omega) (by omega))) ?_
        refine wmv rfl rfl ?_
        refine wn1 ?_
        exact ⟨(j + 1),⟨_,aSs ⟨rfl,rfl,rfl,rfl,rfl,trivial⟩,hS.pick [] (by decide) rfl,by omega,ha.next hst⟩,by omega⟩
      refine wbt rfl rfl rfl rfl (bEq (eqF (by omega))) ?_
      refine wn1 ?_
      refine wF (ev rfl rfl) ?_
      refine wSk (blkN (tNo (wreg (wbc (z:=.int .i64 ((t + 1:Nat):Int)) rfl rfl (bAd (wI6 (by omega) (by omega))) ?_))))
      refine wmv rfl rfl ?_
      refine wn1 ?_
      exact ⟨(t + 1), ⟨_, _, aSs (l := [(0, .int .u32 (n : Int)), (5, .int .i64 (k : Int)), (6, .int .u64 (((2 * m + 1 : Nat) : Int))), (8, .int .u32 (((bsL.getD j 0 : Nat) : Int))), (9, .int .u32 (((X * X % n : Nat) : Int))), (32, .agg #[.int .u32 2, .int .u32 7, .int .u32 61]), (33, .int .i64 (j : Int)), (34, .bool true), (35, .int .u32 (((bsL.getD j 0 : Nat) : Int))), (36, .int .u32 (((bsL.getD j 0 : Nat) : Int))), (37, .int .u64 (((2 * m + 1 : Nat) : Int))), (38, .int .u32 (n : Int)), (39, .int .u32 (Y : Int)), (40, .int .u32 (Y : Int)), (41, .bool false), (42, .bool false), (43, .int .u32 (Y : Int)), (44, .int .u32 (n : Int)), (45, .int .u32 (((n - 1 : Nat) : Int))), (46, .bool false), (47, .bool false), (48, .int .i64 (k : Int)), (49, .int .i64 (((k - 1 : Nat) : Int))), (50, .int .i64 (((t + 1 : Nat) : Int)))]) ⟨rfl, rfl, rfl, rfl, rfl, rfl, rfl, rfl, rfl, rfl, rfl, rfl, rfl, rfl, rfl, rfl, rfl, rfl, rfl, rfl, rfl, rfl, rfl, rfl, trivial⟩, hS.pick [] (by decide) rfl, by omega, hsq, fun i hi h => by
                by_cases e:i = t + 1
                · exact hXn (hsq.symm.trans (e ▸ h))
                exact hne i (by omega) h⟩,by omega⟩
    refine wbt rfl rfl rfl rfl (bLs (decide_eq_false (by omega))) ?_
    refine wn1 (wSq ?_)
    refine wF (ev rfl rfl) ?_
    refine wEx ?_
    refine tEx ?_
    refine tEx ?_
    refine blkE ?_
    refine tNo (wsr (wavc ?_))
    refine wn1 ?_
    refine wLv ?_
    refine blkR ?_
    refine thenR ?_
    refine thenR ?_
    refine blkR ?_
    refine thenR ?_
    refine scR ?_
    have hbv:b = false:=by
      cases hbb:b with
      | false => rfl
      | true =>
        exfalso
        have hpr:=hb.1 hbb
        rcases MR.pr_strong hpr (hs.bs h2 (by omega) hpr) (d:=2 * m + 1) (s:=k) (by omega) with h | ⟨i,hik,h⟩
        · exact hY1 (hY.out.symm.trans h)
        exact hne i (by omega) h
    refine wr1 Tryz.results68 (tlT (v:=.bool false) rfl rfl) ?_
    exact ⟨_,_,rfl,⟨by rw [hbv],rfl⟩,hS.new0⟩
  refine wbc rfl rfl (bLs (decide_eq_false (by omega))) ?_
  refine wn1 (wSq ?_)
  refine wF (ev rfl rfl) ?_
  refine wEx ?_
  refine tEx ?_
  refine tEx ?_
  refine blkE ?_
  refine tNo (wsr (wavc ?_))
  refine wn1 ?_
  refine wLv ?_
  refine scR ?_
  obtain rfl:j = 3:=by omega
  have hbv:b = true:=hb.2 (is_end (by omega) hp2 hs ha)
  refine wr1 Tryz.results68 (tlT (v:=.bool true) rfl rfl) ?_
  exact ⟨_,_,rfl,⟨by rw [hbv],rfl⟩,hS.new0⟩
theorem wpquo {a b p:Nat} {w:World} (hp:MR.Pr p) (hp2:p < 4294967296) (ha:a < 4294967296) (hb:b < 4294967296) (ht:Tb w) (hd:¬ p ∣ b) :
  Calls Tryz.prog 71 #[.int .u32 (a:Int),.int .u32 (b:Int),.int .u32 (p:Int)] w (Ret (Is (.tuple #[.int .u32 ((a * (b ^ (p - 2) % p) % p:Nat):Int),.int .i64 0])) w):=by
 have h2:=hp.1
 have hm:=mod_lt32 (a:=b ^ (p - 2)) (show 0 < p by omega) hp2
 have hS:=Sep.init w
 refine went Tryz.func71 rfl (n:=21) rfl rfl ?_
 refine wsr (wavc ?_)
 refine wavc ?_
 refine wn1 (wSq (wsr (wmv rfl rfl ?_)))
 refine wcl Tryz.call68 (wpis (b:=true) hp2 (ht.at hS) ⟨fun _ => hp,fun _ => rfl⟩) (ar1 (ev rfl rfl)) hS ?_
 clear hS; rintro _ _ w1 ⟨rfl,rfl⟩ hS
 refine wl rfl (onot rfl rfl (ev rfl rfl) ?_)
 refine wn1 ?_
 refine wF (ev rfl rfl) ?_
 refine wSk (tNo (wSq (wsr (wmv rfl rfl ?_))))
 refine wmv rfl rfl ?_
 refine wbt (z:=.int .u32 ((b % p:Nat):Int)) rfl rfl rfl rfl (bin_rem (by omega) rfl) ?_
 refine wbc rfl rfl (bEq (eqF (fun h => hd (Nat.dvd_of_mod_eq_zero (by omega))))) ?_
 refine wn1 ?_
 refine wF (ev rfl rfl) ?_
 refine wSk (tNo (wsr (wmv rfl rfl ?_)))
 refine wmv rfl rfl ?_
 refine wmv rfl rfl ?_
 refine wcl Tryz.call102 (winverse hp hp2 hb hd) (ar2 (ev rfl rfl) (ev rfl rfl)) hS ?_
 clear hS; rintro _ _ w2 ⟨rfl,rfl⟩ hS
 refine wmv rfl rfl ?_
 refine wcl Tryz.call98 (wtimes ha hm (by omega) hp2) (args3 (ev rfl rfl) (ev rfl rfl) (ev rfl rfl)) hS ?_
 clear hS; rintro _ _ w3 ⟨rfl,rfl⟩ hS
 refine wav rfl rfl ?_
 refine wavc ?_
 refine wn1 ?_
 refine wLv ?_
 refine wret2 Tryz.results71 (tlT (v:=.int .u32 (((a * (b ^ (p - 2) % p) % p:Nat):Int))) rfl rfl) (tlT (v:=.int .i64 0) rfl rfl) ?_
 exact ⟨_,_,rfl,isI,hS.new0⟩
/- An operation modulo a prime: the closure is called at a later world. -/
theorem wby {p v:Nat} {F:FuncId} {cs:Array Value} {w:World} (hp:MR.Pr p) (hp2:p < 4294967296) (ht:Tb w) (hF:∀ args w,(callFunc F args).run Tryz.prog w = .ok (.enter F args) w) (hC:∀ w',Below w.heap.size w w' → Calls Tryz.prog F cs w' (Ret (Is (.int .u32 ((v:Nat):Int))) w')) :
  Calls Tryz.prog 99 #[.int .u32 (p:Int),.func (.func F) #[] cs] w (Ret (Is (.tuple #[.int .u32 ((v:Nat):Int),.int .i64 0])) w):=by
 have hC2:∀ w',Below w.heap.size w w' → Calls Tryz.prog F (#[] ++ cs) w' (Ret (Is (.int .u32 (v:Int))) w'):=fun w' hb => by rw [Array.empty_append]; exact hC w' hb
 have hS:=Sep.init w
 refine went Tryz.func99 rfl (n:=11) rfl rfl ?_
 refine wsr (wavc ?_)
 refine wavc ?_
 refine wn1 (wSq (wsr (wmv rfl rfl ?_)))
 refine wcl Tryz.call68 (wpis (b:=true) hp2 (ht.at hS) ⟨fun _ => hp,fun _ => rfl⟩) (ar1 (ev rfl rfl)) hS ?_
 clear hS; rintro _ _ w1 ⟨rfl,rfl⟩ hS
 refine wl rfl (onot rfl rfl (ev rfl rfl) ?_)
 refine wn1 ?_
 refine wF (ev rfl rfl) ?_
 refine wSk (tNo (wsr (wmv rfl rfl ?_)))
 refine wl rfl (ocallc (vs:=#[]) (caps:=cs) rfl rfl (ev rfl rfl) hF rfl (hC2 _ hS.below) (args0 ) ?_)
 rintro _ w2 ⟨_,_,rfl,⟨rfl,rfl⟩,hN⟩
 refine ⟨_,rfl,?_⟩
 replace hS:=hS.news hN; clear hN
 refine wav rfl rfl ?_
 refine wavc ?_
 refine wn1 ?_
 refine wLv ?_
 refine wret2 Tryz.results99 (tlT (v:=.int .u32 (v:Int)) rfl rfl) (tlT (v:=.int .i64 0) rfl rfl) ?_
 exact ⟨_,_,rfl,isI,hS.new0⟩
theorem wsub_cl {a b p g0 g1 g2:Nat} {t0 t1 t2:TypeId} {w:World} (h0:w.heap[g0]? = some (.cells [.int .u32 (a:Int)].toArray t0)) (h1:w.heap[g1]? = some (.cells [.int .u32 (p:Int)].toArray t1)) (h2:w.heap[g2]? = some (.cells [.int .u32 (b:Int)].toArray t2)) (hp:0 < p) (hp2:p < 4294967296) (ha:a < 4294967296) (hb:b < 4294967296) :
  Calls Tryz.prog 100 #[.pointer (some ⟨g0,0,none⟩),.pointer (some ⟨g1,0,none⟩),.pointer (some ⟨g2,0,none⟩)] w (Ret (Is (.int .u32 (((a % p + p - b % p) % p:Nat):Int))) w):=by
 have hma:=Nat.mod_lt a hp
 have hmb:=Nat.mod_lt b hp
 have hml:=mod_lt32 (a:=a % p + p - b % p) hp hp2
 have hS:=Sep.init w
 refine went Tryz.func100 rfl (n:=20) rfl rfl ?_
 refine wsr (wavc ?_)
 refine wn1 (wSq ?_)
 refine wSg 17 [4,5,6,7,8,9,10,11,12,13,14,15,16,17,18,19,3] [[],[],[0,1],[2,0,1],[],[4],[3,5,0,1,2,4],[],[],[7,8],[9,7,8],[6,10,0,1,2,3,4,5,7,8,9],[],[12],[11,13,0,1,2,3,4,5,6,7,8,9,10,12],[14,0,1,2,3,4,5,6,7,8,9,10,11,12,13],[15,0,1,2,3,4,5,6,7,8,9,10,11,12,13,14]] [] [] [] (fun i9 => ([iSv (.int .u32 (a:Int)),iSv (.int .u32 (p:Int)),iSv (.int .u32 ((a % p:Nat):Int)),iSv (.int .u64 ((a % p:Nat):Int)),iSv (.int .u32 (p:Int)),iSv (.int .u64 (p:Int)),iSv (.int .u64 ((a % p + p:Nat):Int)),iSv (.int .u32 (b:Int)),iSv (.int .u32 (p:Int)),iSv (.int .u32 ((b % p:Nat):Int)),iSv (.int .u64 ((b % p:Nat):Int)),iSv (.int .u64 ((a % p + p - b % p:Nat):Int)),iSv (.int .u32 (p:Int)),iSv (.int .u64 (p:Int)),iSv (.int .u64 ((((a % p + p - b % p) % p:Nat):Int))),iSv (.int .u32 ((((a % p + p - b % p) % p:Nat):Int))),iSv (.int .u32 ((((a % p + p - b % p) % p:Nat):Int)))]:List (List Value → Tell)).getD i9 (fun _ _ _ => False)) hNi (fun d _ _ _ _ h => (by cases d <;> exact h)) (by kernel_rfl) (by kernel_rfl) (by kernel_rfl) hS ?_ ?_
 ·
  refine stH rfl (fun ho hS=>?_) ?_
  ·exact inNo rfl (oLc one32 rfl rfl (ev rfl (ho 0 rfl)) (hS.cellAt (box_cells (cs:=[.int .u32 (a:Int)]) h0 0 _ rfl)) (nSm rfl isI))
  refine stH rfl (fun ho hS=>?_) ?_
  ·exact inNo rfl (oLc one32 rfl rfl (ev rfl (ho 1 rfl)) (hS.cellAt (box_cells (cs:=[.int .u32 (p:Int)]) h1 0 _ rfl)) (nSm rfl isI))
  refine stT rfl (fun hT hS=>?_) ?_
  ·obtain ⟨hv0,hr0⟩:=hT 0 4 rfl rfl
   obtain ⟨hv1,hr1⟩:=hT 1 5 rfl rfl
   obtain hS:=hS.flat2 hr0 hr1
   exact inNo rfl (obin (z:=.int .u32 ((a % p:Nat):Int)) rfl rfl (ev rfl hv0) (ev rfl hv1) (bin_rem (by omega) rfl) (nSm rfl isI))
  refine stT rfl (fun hT hS=>?_) ?_
  ·obtain ⟨hv2,hr2⟩:=hT 2 6 rfl rfl
   obtain hS:=hS.flat1 hr2
   exact inNo rfl (oCv (u:=.int .u32 ((a % p:Nat):Int)) (v:=.int .u64 ((a % p:Nat):Int)) rfl rfl (ev rfl hv2) (cvI Tryz.runUnderlying38 Tryz.runUnderlying69 (wU6 (by omega) (by omega))) (nSm rfl isI))
  refine stH rfl (fun ho hS=>?_) ?_
  ·exact inNo rfl (oLc one32 rfl rfl (ev rfl (ho 1 rfl)) (hS.cellAt (box_cells (cs:=[.int .u32 (p:Int)]) h1 0 _ rfl)) (nSm rfl isI))
  refine stT rfl (fun hT hS=>?_) ?_
  ·obtain ⟨hv4,hr4⟩:=hT 4 8 rfl rfl
   obtain hS:=hS.flat1 hr4
   exact inNo rfl (oCv (u:=.int .u32 (p:Int)) (v:=.int .u64 (p:Int)) rfl rfl (ev rfl hv4) (cvI Tryz.runUnderlying38 Tryz.runUnderlying69 (wU6 (by omega) (by omega))) (nSm rfl isI))
  refine stT rfl (fun hT hS=>?_) ?_
  ·obtain ⟨hv3,hr3⟩:=hT 3 7 rfl rfl
   obtain ⟨hv5,hr5⟩:=hT 5 9 rfl rfl
   obtain hS:=hS.flat2 hr3 hr5
   exact inNo rfl (obin (z:=.int .u64 ((a % p + p:Nat):Int)) rfl rfl (ev rfl hv3) (ev rfl hv5) (bAd (wU6 (by omega) (by omega))) (nSm rfl isI))
  refine stH rfl (fun ho hS=>?_) ?_
  ·exact inNo rfl (oLc one32 rfl rfl (ev rfl (ho 2 rfl)) (hS.cellAt (box_cells (cs:=[.int .u32 (b:Int)]) h2 0 _ rfl)) (nSm rfl isI))
  refine stH rfl (fun ho hS=>?_) ?_
  ·exact inNo rfl (oLc one32 rfl rfl (ev rfl (ho 1 rfl)) (hS.cellAt (box_cells (cs:=[.int .u32 (p:Int)]) h1 0 _ rfl)) (nSm rfl isI))
  refine stT rfl (fun hT hS=>?_) ?_
  ·obtain ⟨hv7,hr7⟩:=hT 7 11 rfl rfl
   obtain ⟨hv8,hr8⟩:=hT 8 12 rfl rfl
   obtain hS:=hS.flat2 hr7 hr8
   exact inNo rfl (obin (z:=.int .u32 ((b % p:Nat):Int)) rfl rfl (ev rfl hv7) (ev rfl hv8) (bin_rem (by omega) rfl) (nSm rfl isI))
  refine stT rfl (fun hT hS=>?_) ?_
  ·obtain ⟨hv9,hr9⟩:=hT 9 13 rfl rfl
   obtain hS:=hS.flat1 hr9
   exact inNo rfl (oCv (u:=.int .u32 ((b % p:Nat):Int)) (v:=.int .u64 ((b % p:Nat):Int)) rfl rfl (ev rfl hv9) (cvI Tryz.runUnderlying38 Tryz.runUnderlying69 (wU6 (by omega) (by omega))) (nSm rfl isI))
  refine stT rfl (fun hT hS=>?_) ?_
  ·obtain ⟨hv6,hr6⟩:=hT 6 10 rfl rfl
   obtain ⟨hv10,hr10⟩:=hT 10 14 rfl rfl
   obtain hS:=hS.flat2 hr6 hr10
   exact inNo rfl (obin (z:=.int .u64 ((a % p + p - b % p:Nat):Int)) rfl rfl (ev rfl hv6) (ev rfl hv10) (bin_sub ((by rw [show ((a % p + p:Nat):Int) - ((b % p:Nat):Int) = ((a % p + p - b % p:Nat):Int) by omega]; exact wU6 (by omega) (by omega)))) (nSm rfl isI))
  refine stH rfl (fun ho hS=>?_) ?_
  ·exact inNo rfl (oLc one32 rfl rfl (ev rfl (ho 1 rfl)) (hS.cellAt (box_cells (cs:=[.int .u32 (p:Int)]) h1 0 _ rfl)) (nSm rfl isI))
  refine stT rfl (fun hT hS=>?_) ?_
  ·obtain ⟨hv12,hr12⟩:=hT 12 16 rfl rfl
   obtain hS:=hS.flat1 hr12
   exact inNo rfl (oCv (u:=.int .u32 (p:Int)) (v:=.int .u64 (p:Int)) rfl rfl (ev rfl hv12) (cvI Tryz.runUnderlying38 Tryz.runUnderlying69 (wU6 (by omega) (by omega))) (nSm rfl isI))
  refine stT rfl (fun hT hS=>?_) ?_
  ·obtain ⟨hv11,hr11⟩:=hT 11 15 rfl rfl
   obtain ⟨hv13,hr13⟩:=hT 13 17 rfl rfl
   obtain hS:=hS.flat2 hr11 hr13
   exact inNo rfl (obin (z:=.int .u64 ((((a % p + p - b % p) % p:Nat):Int))) rfl rfl (ev rfl hv11) (ev rfl hv13) (bin_rem (by omega) rfl) (nSm rfl isI))
  refine stT rfl (fun hT hS=>?_) ?_
  ·obtain ⟨hv14,hr14⟩:=hT 14 18 rfl rfl
   obtain hS:=hS.flat1 hr14
   exact inNo rfl (oCv (u:=.int .u64 ((((a % p + p - b % p) % p:Nat):Int))) (v:=.int .u32 ((((a % p + p - b % p) % p:Nat):Int))) rfl rfl (ev rfl hv14) (cvI Tryz.runUnderlying69 Tryz.runUnderlying38 (wrap_u32 (by omega) (by omega))) (nSm rfl isI))
  refine stT rfl (fun hT hS=>?_) ?_
  ·obtain ⟨hv15,hr15⟩:=hT 15 19 rfl rfl
   obtain hS:=hS.flat1 hr15
   exact inNo rfl (oassign rfl rfl (ev rfl hv15) (nSm rfl isI))
  exact sNi
 intro vs ρ w1 f' hf hT hS
 obtain ⟨hv0,hr0⟩:=hT 0 (by decide)
 obtain ⟨hv1,hr1⟩:=hT 1 (by decide)
 obtain ⟨hv2,hr2⟩:=hT 2 (by decide)
 obtain ⟨hv3,hr3⟩:=hT 3 (by decide)
 obtain ⟨hv4,hr4⟩:=hT 4 (by decide)
 obtain ⟨hv5,hr5⟩:=hT 5 (by decide)
 obtain ⟨hv6,hr6⟩:=hT 6 (by decide)
 obtain ⟨hv7,hr7⟩:=hT 7 (by decide)
 obtain ⟨hv8,hr8⟩:=hT 8 (by decide)
 obtain ⟨hv9,hr9⟩:=hT 9 (by decide)
 obtain ⟨hv10,hr10⟩:=hT 10 (by decide)
 obtain ⟨hv11,hr11⟩:=hT 11 (by decide)
 obtain ⟨hv12,hr12⟩:=hT 12 (by decide)
 obtain ⟨hv13,hr13⟩:=hT 13 (by decide)
 obtain ⟨hv14,hr14⟩:=hT 14 (by decide)
 obtain ⟨hv15,hr15⟩:=hT 15 (by decide)
 obtain ⟨hv16,hr16⟩:=hT 16 (by decide)
 simp only [pool,if_true,hr0,hr1,hr2,hr3,hr4,hr5,hr6,hr7,hr8,hr9,hr10,hr11,hr12,hr13,hr14,hr15,hr16,List.nil_append,List.cons_append,List.append_nil] at hS
 simp only [layf,hv0,hv1,hv2,hv3,hv4,hv5,hv6,hv7,hv8,hv9,hv10,hv11,hv12,hv13,hv14,hv15,hv16] at hf
 subst hf; clear hT hv0 hv1 hv2 hv3 hv4 hv5 hv6 hv7 hv8 hv9 hv10 hv11 hv12 hv13 hv14 hv15 hv16 hr0 hr1 hr2 hr3 hr4 hr5 hr6 hr7 hr8 hr9 hr10 hr11 hr12 hr13 hr14 hr15 hr16
 refine wdone rfl ?_
 refine tNo ?_
 refine wLv ?_
 refine wr1 Tryz.results100 (tlT (v:=.int .u32 ((((a % p + p - b % p) % p:Nat):Int))) rfl rfl) ?_
 exact ⟨_,_,rfl,isI,hS.new0⟩
theorem wpsub {a b p:Nat} {w:World} (hp:MR.Pr p) (hp2:p < 4294967296) (ha:a < 4294967296) (hb:b < 4294967296) (ht:Tb w) :
  Calls Tryz.prog 69 #[.int .u32 (a:Int),.int .u32 (b:Int),.int .u32 (p:Int)] w (Ret (Is (.tuple #[.int .u32 (((a % p + p - b % p) % p:Nat):Int),.int .i64 0])) w):=by
 have h2:=hp.1
 have hS:=Sep.init w
 refine went Tryz.func69 rfl (n:=13) rfl rfl ?_
 refine wsr (wl rfl (obox [.int .u32 (a:Int)] hS rfl rfl (ev rfl rfl) rfl ?_))
 clear hS; intro g1 w2 hS
 refine wl rfl (obox [.int .u32 (b:Int)] hS rfl rfl (ev rfl rfl) rfl ?_)
 clear hS; intro g3 w4 hS
 refine wl rfl (obox [.int .u32 (p:Int)] hS rfl rfl (ev rfl rfl) rfl ?_)
 clear hS; intro g5 w6 hS
 refine wavc ?_
 refine wavc ?_
 refine wn2 (wl rfl (oL1 one32 hS 0 rfl rfl (ev rfl rfl) rfl rfl ?_))
 refine wl rfl (omakeFunc (cs:=#[.pointer (some ⟨g1,0,none⟩),.pointer (some ⟨g5,0,none⟩),.pointer (some ⟨g3,0,none⟩)]) rfl rfl (args3 (ev rfl rfl) (ev rfl rfl) (ev rfl rfl)) ?_)
 refine wcl Tryz.call99 (wby (v:=(a % p + p - b % p) % p) hp hp2 (ht.at hS) Tryz.call100 (fun w9 hb9 => wsub_cl (hb9.block _ (Array.getElem?_eq_some_iff.1 (hS.blkAt 2 rfl)).1 |>.trans (hS.blkAt 2 rfl)) (hb9.block _ (Array.getElem?_eq_some_iff.1 (hS.blkAt 0 rfl)).1 |>.trans (hS.blkAt 0 rfl)) (hb9.block _ (Array.getElem?_eq_some_iff.1 (hS.blkAt 1 rfl)).1 |>.trans (hS.blkAt 1 rfl)) (by omega) hp2 ha hb)) (ar2 (ev rfl rfl) (ev rfl rfl)) hS ?_
 clear hS; rintro _ _ w7 ⟨rfl,rfl⟩ hS
 refine wl rfl (oEx rfl rfl (ev rfl rfl) rfl ?_)
 refine wl rfl (oEx rfl rfl (ev rfl rfl) rfl ?_)
 refine wav rfl rfl ?_
 refine wav rfl rfl ?_
 refine wn1 ?_
 refine wLv ?_
 refine wret2 Tryz.results69 (tlT (v:=.int .u32 ((((a % p + p - b % p) % p:Nat):Int))) rfl rfl) (tlT (v:=.int .i64 0) rfl rfl) ?_
 exact ⟨_,_,rfl,isI,hS.new0⟩
theorem wsmul {a b n:Nat} {w:World} (ha:a < 4294967296) (hb:b < 4294967296) (hn:0 < n) (hn2:n < 4294967296) :
  Calls Tryz.prog 30 #[.int .u32 (a:Int),.int .u32 (b:Int),.int .u32 (n:Int)] w (Ret (Is (.int .u32 ((a * b % n:Nat):Int))) w):=by
 have hm:=mod_lt32 (a:=a * b) hn hn2
 have hS:=Sep.init w
 refine went Tryz.func30 rfl (n:=16) rfl rfl ?_
 refine wsr (wavc ?_)
 refine wn2 (wmv rfl rfl ?_)
 refine wl rfl (oCv (u:=.int .u32 (a:Int)) (v:=.int .u64 (a:Int)) rfl rfl (ev rfl rfl) (cvI Tryz.runUnderlying38 Tryz.runUnderlying69 (wU6 (by omega) (by omega))) ?_)
 refine wmv rfl rfl ?_
 refine wl rfl (oCv (u:=.int .u32 (b:Int)) (v:=.int .u64 (b:Int)) rfl rfl (ev rfl rfl) (cvI Tryz.runUnderlying38 Tryz.runUnderlying69 (wU6 (by omega) (by omega))) ?_)
 refine wbt (z:=.int .u64 ((a * b:Nat):Int)) rfl rfl rfl rfl (bin_mul (mul_u64 ha hb)) ?_
 refine wmv rfl rfl ?_
 refine wl rfl (oCv (u:=.int .u32 (n:Int)) (v:=.int .u64 (n:Int)) rfl rfl (ev rfl rfl) (cvI Tryz.runUnderlying38 Tryz.runUnderlying69 (wU6 (by omega) (by omega))) ?_)
 refine wbt (z:=.int .u64 ((a * b % n:Nat):Int)) rfl rfl rfl rfl (bin_rem (by omega) rfl) ?_
 refine wl rfl (oCv (u:=.int .u64 ((a * b % n:Nat):Int)) (v:=.int .u32 ((a * b % n:Nat):Int)) rfl rfl (ev rfl rfl) (cvI Tryz.runUnderlying69 Tryz.runUnderlying38 (wrap_u32 (by omega) (by omega))) ?_)
 refine wav rfl rfl ?_
 refine wn1 ?_
 refine wLv ?_
 refine wr1 Tryz.results30 (tlT (v:=.int .u32 ((a * b % n:Nat):Int)) rfl rfl) ?_
 exact ⟨_,_,rfl,isI,hS.new0⟩
theorem wssub {a b p:Nat} {w:World} (hp:0 < p) (hp2:p < 4294967296) (ha:a < 4294967296) (hb:b < 4294967296) :
  Calls Tryz.prog 31 #[.int .u32 (a:Int),.int .u32 (b:Int),.int .u32 (p:Int)] w (Ret (Is (.int .u32 (((a % p + p - b % p) % p:Nat):Int))) w):=by
 have hma:=Nat.mod_lt a hp
 have hmb:=Nat.mod_lt b hp
 have hml:=mod_lt32 (a:=a % p + p - b % p) hp hp2
 have hS:=Sep.init w
 refine went Tryz.func31 rfl (n:=23) rfl rfl ?_
 refine wsr (wavc ?_)
 refine wn1 (wSq ?_)
 refine wSg 17 [7,8,9,10,11,12,13,14,15,16,17,18,19,20,21,22,6] [[],[],[0,1],[2,0,1],[],[4],[3,5,0,1,2,4],[],[],[7,8],[9,7,8],[6,10,0,1,2,3,4,5,7,8,9],[],[12],[11,13,0,1,2,3,4,5,6,7,8,9,10,12],[14,0,1,2,3,4,5,6,7,8,9,10,11,12,13],[15,0,1,2,3,4,5,6,7,8,9,10,11,12,13,14]] [] [] [] (fun i9 => ([iSv (.int .u32 (a:Int)),iSv (.int .u32 (p:Int)),iSv (.int .u32 ((a % p:Nat):Int)),iSv (.int .u64 ((a % p:Nat):Int)),iSv (.int .u32 (p:Int)),iSv (.int .u64 (p:Int)),iSv (.int .u64 ((a % p + p:Nat):Int)),iSv (.int .u32 (b:Int)),iSv (.int .u32 (p:Int)),iSv (.int .u32 ((b % p:Nat):Int)),iSv (.int .u64 ((b % p:Nat):Int)),iSv (.int .u64 ((a % p + p - b % p:Nat):Int)),iSv (.int .u32 (p:Int)),iSv (.int .u64 (p:Int)),iSv (.int .u64 ((((a % p + p - b % p) % p:Nat):Int))),iSv (.int .u32 ((((a % p + p - b % p) % p:Nat):Int))),iSv (.int .u32 ((((a % p + p - b % p) % p:Nat):Int)))]:List (List Value → Tell)).getD i9 (fun _ _ _ => False)) hNi (fun d _ _ _ _ h => (by cases d <;> exact h)) (by kernel_rfl) (by kernel_rfl) (by kernel_rfl) hS ?_ ?_
 ·
  refine stM rfl rfl rfl rfl rfl (fun _=>isI) ?_
  refine stM rfl rfl rfl rfl rfl (fun _=>isI) ?_
  refine stT rfl (fun hT hS=>?_) ?_
  ·obtain ⟨hv0,hr0⟩:=hT 0 7 rfl rfl
   obtain ⟨hv1,hr1⟩:=hT 1 8 rfl rfl
   obtain hS:=hS.flat2 hr0 hr1
   exact inNo rfl (obin (z:=.int .u32 ((a % p:Nat):Int)) rfl rfl (ev rfl hv0) (ev rfl hv1) (bin_rem (by omega) rfl) (nSm rfl isI))
  refine stT rfl (fun hT hS=>?_) ?_
  ·obtain ⟨hv2,hr2⟩:=hT 2 9 rfl rfl
   obtain hS:=hS.flat1 hr2
   exact inNo rfl (oCv (u:=.int .u32 ((a % p:Nat):Int)) (v:=.int .u64 ((a % p:Nat):Int)) rfl rfl (ev rfl hv2) (cvI Tryz.runUnderlying38 Tryz.runUnderlying69 (wU6 (by omega) (by omega))) (nSm rfl isI))
  refine stM rfl rfl rfl rfl rfl (fun _=>isI) ?_
  refine stT rfl (fun hT hS=>?_) ?_
  ·obtain ⟨hv4,hr4⟩:=hT 4 11 rfl rfl
   obtain hS:=hS.flat1 hr4
   exact inNo rfl (oCv (u:=.int .u32 (p:Int)) (v:=.int .u64 (p:Int)) rfl rfl (ev rfl hv4) (cvI Tryz.runUnderlying38 Tryz.runUnderlying69 (wU6 (by omega) (by omega))) (nSm rfl isI))
  refine stT rfl (fun hT hS=>?_) ?_
  ·obtain ⟨hv3,hr3⟩:=hT 3 10 rfl rfl
   obtain ⟨hv5,hr5⟩:=hT 5 12 rfl rfl
   obtain hS:=hS.flat2 hr3 hr5
   exact inNo rfl (obin (z:=.int .u64 ((a % p + p:Nat):Int)) rfl rfl (ev rfl hv3) (ev rfl hv5) (bAd (wU6 (by omega) (by omega))) (nSm rfl isI))
  refine stM rfl rfl rfl rfl rfl (fun _=>isI) ?_
  refine stM rfl rfl rfl rfl rfl (fun _=>isI) ?_
  refine stT rfl (fun hT hS=>?_) ?_
  ·obtain ⟨hv7,hr7⟩:=hT 7 14 rfl rfl
   obtain ⟨hv8,hr8⟩:=hT 8 15 rfl rfl
   obtain hS:=hS.flat2 hr7 hr8
   exact inNo rfl (obin (z:=.int .u32 ((b % p:Nat):Int)) rfl rfl (ev rfl hv7) (ev rfl hv8) (bin_rem (by omega) rfl) (nSm rfl isI))
  refine stT rfl (fun hT hS=>?_) ?_
  ·obtain ⟨hv9,hr9⟩:=hT 9 16 rfl rfl
   obtain hS:=hS.flat1 hr9
   exact inNo rfl (oCv (u:=.int .u32 ((b % p:Nat):Int)) (v:=.int .u64 ((b % p:Nat):Int)) rfl rfl (ev rfl hv9) (cvI Tryz.runUnderlying38 Tryz.runUnderlying69 (wU6 (by omega) (by omega))) (nSm rfl isI))
  refine stT rfl (fun hT hS=>?_) ?_
  ·obtain ⟨hv6,hr6⟩:=hT 6 13 rfl rfl
   obtain ⟨hv10,hr10⟩:=hT 10 17 rfl rfl
   obtain hS:=hS.flat2 hr6 hr10
   exact inNo rfl (obin (z:=.int .u64 ((a % p + p - b % p:Nat):Int)) rfl rfl (ev rfl hv6) (ev rfl hv10) (bin_sub ((by rw [show ((a % p + p:Nat):Int) - ((b % p:Nat):Int) = ((a % p + p - b % p:Nat):Int) by omega]; exact wU6 (by omega) (by omega)))) (nSm rfl isI))
  refine stM rfl rfl rfl rfl rfl (fun _=>isI) ?_
  refine stT rfl (fun hT hS=>?_) ?_
  ·obtain ⟨hv12,hr12⟩:=hT 12 19 rfl rfl
   obtain hS:=hS.flat1 hr12
   exact inNo rfl (oCv (u:=.int .u32 (p:Int)) (v:=.int .u64 (p:Int)) rfl rfl (ev rfl hv12) (cvI Tryz.runUnderlying38 Tryz.runUnderlying69 (wU6 (by omega) (by omega))) (nSm rfl isI))
  refine stT rfl (fun hT hS=>?_) ?_
  ·obtain ⟨hv11,hr11⟩:=hT 11 18 rfl rfl
   obtain ⟨hv13,hr13⟩:=hT 13 20 rfl rfl
   obtain hS:=hS.flat2 hr11 hr13
   exact inNo rfl (obin (z:=.int .u64 ((((a % p + p - b % p) % p:Nat):Int))) rfl rfl (ev rfl hv11) (ev rfl hv13) (bin_rem (by omega) rfl) (nSm rfl isI))
  refine stT rfl (fun hT hS=>?_) ?_
  ·obtain ⟨hv14,hr14⟩:=hT 14 21 rfl rfl
   obtain hS:=hS.flat1 hr14
   exact inNo rfl (oCv (u:=.int .u64 ((((a % p + p - b % p) % p:Nat):Int))) (v:=.int .u32 ((((a % p + p - b % p) % p:Nat):Int))) rfl rfl (ev rfl hv14) (cvI Tryz.runUnderlying69 Tryz.runUnderlying38 (wrap_u32 (by omega) (by omega))) (nSm rfl isI))
  refine stT rfl (fun hT hS=>?_) ?_
  ·obtain ⟨hv15,hr15⟩:=hT 15 22 rfl rfl
   obtain hS:=hS.flat1 hr15
   exact inNo rfl (oassign rfl rfl (ev rfl hv15) (nSm rfl isI))
  exact sNi
 intro vs ρ w1 f' hf hT hS
 obtain ⟨hv0,hr0⟩:=hT 0 (by decide)
 obtain ⟨hv1,hr1⟩:=hT 1 (by decide)
 obtain ⟨hv2,hr2⟩:=hT 2 (by decide)
 obtain ⟨hv3,hr3⟩:=hT 3 (by decide)
 obtain ⟨hv4,hr4⟩:=hT 4 (by decide)
 obtain ⟨hv5,hr5⟩:=hT 5 (by decide)
 obtain ⟨hv6,hr6⟩:=hT 6 (by decide)
 obtain ⟨hv7,hr7⟩:=hT 7 (by decide)
 obtain ⟨hv8,hr8⟩:=hT 8 (by decide)
 obtain ⟨hv9,hr9⟩:=hT 9 (by decide)
 obtain ⟨hv10,hr10⟩:=hT 10 (by decide)
 obtain ⟨hv11,hr11⟩:=hT 11 (by decide)
 obtain ⟨hv12,hr12⟩:=hT 12 (by decide)
 obtain ⟨hv13,hr13⟩:=hT 13 (by decide)
 obtain ⟨hv14,hr14⟩:=hT 14 (by decide)
 obtain ⟨hv15,hr15⟩:=hT 15 (by decide)
 obtain ⟨hv16,hr16⟩:=hT 16 (by decide)
 simp only [pool,if_true,hr0,hr1,hr2,hr3,hr4,hr5,hr6,hr7,hr8,hr9,hr10,hr11,hr12,hr13,hr14,hr15,hr16,List.nil_append,List.cons_append,List.append_nil] at hS
 simp only [layf,hv0,hv1,hv2,hv3,hv4,hv5,hv6,hv7,hv8,hv9,hv10,hv11,hv12,hv13,hv14,hv15,hv16] at hf
 subst hf; clear hT hv0 hv1 hv2 hv3 hv4 hv5 hv6 hv7 hv8 hv9 hv10 hv11 hv12 hv13 hv14 hv15 hv16 hr0 hr1 hr2 hr3 hr4 hr5 hr6 hr7 hr8 hr9 hr10 hr11 hr12 hr13 hr14 hr15 hr16
 refine wdone rfl ?_
 refine tNo ?_
 refine wLv ?_
 refine wr1 Tryz.results31 (tlT (v:=.int .u32 ((((a % p + p - b % p) % p:Nat):Int))) rfl rfl) ?_
 exact ⟨_,_,rfl,isI,hS.new0⟩
theorem wspow {a e n:Nat} {w:World} (ha:a < 4294967296) (he:e < 18446744073709551616) (hn:0 < n) (hn2:n < 4294967296) :
  Calls Tryz.prog 50 #[.int .u32 (a:Int),.int .u64 (e:Int),.int .u32 (n:Int)] w (Ret (Is (.int .u32 ((a ^ e % n:Nat):Int))) w):=by
 have hS:=Sep.init w
 refine went Tryz.func50 rfl (n:=26) rfl rfl ?_
 refine wsr (wavc ?_)
 refine wn2 (wmv rfl rfl ?_)
 refine wl rfl (obin (z:=.int .u32 ((1 % n:Nat):Int)) rfl rfl evc (ev rfl rfl) (bin_rem (by omega) rfl) ?_)
 refine wav rfl rfl ?_
 refine wn1 (wSq (wBk ?_))
 refine wLp (σ := Nat) (fun k a9 w' => ∃ (fb:Nat → Value) (q:Nat) (c:Nat),a9 = act 26 (sets fb [(0,.int .u32 (c:Int)),(1,.int .u64 (k:Int)),(2,.int .u32 (n:Int)),(6,.int .u32 0),(7,.int .u32 (q:Int))]) ∧ Sep w [] w' ∧ (q < n) ∧ (c < 4294967296) ∧ (q * c ^ k % n = a ^ e % n) ∧ (k < 18446744073709551616)) (fun k => k) (e) ⟨_,(1 % n),a,aSs ⟨rfl,rfl,rfl,rfl,rfl,trivial⟩,hS,Nat.mod_lt _ hn,ha,by rw [Nat.mul_mod,Nat.mod_mod, ← Nat.mul_mod,Nat.one_mul],he⟩ ?_
 clear hS; rintro k _ w1 ⟨fb,q,c,rfl,hS,hq,hc,hT,hk⟩
 refine wSq (wsr (wmv rfl rfl ?_))
 by_cases hk0:k = 0
 ·
  refine wbc rfl rfl (bin_gtr (decide_eq_false (by omega))) ?_
  refine wn1 ?_
  refine wF (ev rfl rfl) ?_
  refine wEx ?_
  refine tEx ?_
  refine tEx ?_
  refine blkE ?_
  refine tNo (wsr (wmv rfl rfl ?_))
  refine wav rfl rfl ?_
  refine wn1 ?_
  refine wLv ?_
  have hT0:=hT
  rw [hk0] at hT0
  have hqT:=pow_go_end hT0 hq
  refine wr1 Tryz.results50 (tlT (v:=.int .u32 (q:Int)) rfl rfl) ?_
  exact ⟨_,_,rfl,⟨by rw [hqT],rfl⟩,hS.new0⟩
 refine wbc rfl rfl (bin_gtr (decide_eq_true (by omega))) ?_
 refine wn1 ?_
 refine wT (ev rfl rfl) ?_
 refine wSk (tNo (wBk (wSq (wsr (wmv rfl rfl ?_)))))
 refine wbc (u:=.int .u64 (k:Int)) (v:=.int .u64 2) (z:=.int .u64 ((k % 2:Nat):Int)) rfl rfl (bin_rem (by decide) rfl) ?_
 have hml:=mod_lt32 (a:=c * c) hn hn2
 have hml2:=Nat.mod_lt (q * c) hn
 by_cases ho:k % 2 = 1
 ·
  refine wbc rfl rfl (bEq (eqT (by omega))) ?_
  refine wn1 ?_
  refine wT (ev rfl rfl) ?_
  refine wreg (wmv rfl rfl ?_)
  refine wmv rfl rfl ?_
  refine wmv rfl rfl ?_
  refine wcl Tryz.call30 (wsmul (by omega) hc hn hn2) (args3 (ev rfl rfl) (ev rfl rfl) (ev rfl rfl)) hS ?_
  clear hS; rintro _ _ w2 ⟨rfl,rfl⟩ hS
  refine wav rfl rfl ?_
  refine wn2 (wmv rfl rfl ?_)
  refine wmv rfl rfl ?_
  refine wmv rfl rfl ?_
  refine wcl Tryz.call30 (wsmul hc hc hn hn2) (args3 (ev rfl rfl) (ev rfl rfl) (ev rfl rfl)) hS ?_
  clear hS; rintro _ _ w3 ⟨rfl,rfl⟩ hS
  refine wav rfl rfl ?_
  refine wn1 (wreg (wmv rfl rfl ?_))
  refine wbc (u:=.int .u64 (k:Int)) (v:=.int .u64 2) (z:=.int .u64 ((k / 2:Nat):Int)) rfl rfl (bin_quo (by decide) (by rw [show (k:Int).tdiv 2 = ((k / 2:Nat):Int) from rfl]; exact wU6 (by omega) (by omega))) ?_
  refine wav rfl rfl ?_
  refine wnil (blkN (tNo ?_))
  exact ⟨(k / 2),⟨_,_,_,aSs ⟨rfl,rfl,rfl,rfl,rfl,trivial⟩,hS.pick [] (by decide) rfl,hml2,hml,pow_go_odd hT ho,by omega⟩,by omega⟩
 refine wbc rfl rfl (bEq (eqF (by omega))) ?_
 refine wn1 ?_
 refine wF (ev rfl rfl) ?_
 refine wSk (tNo (wsr (wmv rfl rfl ?_)))
 refine wmv rfl rfl ?_
 refine wmv rfl rfl ?_
 refine wcl Tryz.call30 (wsmul hc hc hn hn2) (args3 (ev rfl rfl) (ev rfl rfl) (ev rfl rfl)) hS ?_
 clear hS; rintro _ _ w2 ⟨rfl,rfl⟩ hS
 refine wav rfl rfl ?_
 refine wn1 (wreg (wmv rfl rfl ?_))
 refine wbc (u:=.int .u64 (k:Int)) (v:=.int .u64 2) (z:=.int .u64 ((k / 2:Nat):Int)) rfl rfl (bin_quo (by decide) (by rw [show (k:Int).tdiv 2 = ((k / 2:Nat):Int) from rfl]; exact wU6 (by omega) (by omega))) ?_
 refine wav rfl rfl ?_
 refine wnil (blkN (tNo ?_))
 exact ⟨(k / 2),⟨_,_,_,aSs ⟨rfl,rfl,rfl,rfl,rfl,trivial⟩,hS.pick [] (by decide) rfl,hq,hml,pow_go_even hT ho,by omega⟩,by omega⟩
theorem wsinv {a p:Nat} {w:World} (hp:2 ≤ p) (hp2:p < 4294967296) (ha:a < 4294967296) :
  Calls Tryz.prog 32 #[.int .u32 (a:Int),.int .u32 (p:Int)] w (Ret (Is (.int .u32 ((a ^ (p - 2) % p:Nat):Int))) w):=by
 have hS:=Sep.init w
 refine went Tryz.func32 rfl (n:=11) rfl rfl ?_
 refine wsr (wavc ?_)
 refine wn2 (wmv rfl rfl ?_)
 refine wmv rfl rfl ?_
 refine wl rfl (oCv (u:=.int .u32 (p:Int)) (v:=.int .u64 (p:Int)) rfl rfl (ev rfl rfl) (cvI Tryz.runUnderlying38 Tryz.runUnderlying69 (wU6 (by omega) (by omega))) ?_)
 refine wbc (z:=.int .u64 ((p - 2:Nat):Int)) rfl rfl (bin_sub ((by rw [show (p:Int) - 2 = ((p - 2:Nat):Int) by omega]; exact wU6 (by omega) (by omega)))) ?_
 refine wmv rfl rfl ?_
 refine wcl Tryz.call50 (wspow ha (by omega) (by omega) hp2) (args3 (ev rfl rfl) (ev rfl rfl) (ev rfl rfl)) hS ?_
 clear hS; rintro _ _ w1 ⟨rfl,rfl⟩ hS
 refine wav rfl rfl ?_
 refine wn1 ?_
 refine wLv ?_
 refine wr1 Tryz.results32 (tlT (v:=.int .u32 (((a ^ (p - 2) % p:Nat):Int))) rfl rfl) ?_
 exact ⟨_,_,rfl,isI,hS.new0⟩
theorem two_at:∀ i,i < 2 → ([.int .u64 2,.int .u64 3]:List Value)[i]? = some (.int .u64 ((i + 2:Nat):Int))
  | 0,_ => rfl | 1,_ => rfl | _ + 2,h => by omega
theorem wsleast {n : Nat} {w : World} (hn : 2 ≤ n) (hn2 : n < 4294967296) :
    Calls Tryz.prog 49 #[.int .u32 (n:Int)] w (Ret (Is (.int .u32 ((ld n:Nat):Int))) w):=by
  have hS:=Sep.init w
  refine went Tryz.func49 rfl (n:=43) rfl rfl ?_
  refine wsr (wavc ?_)
  refine wn1 (wSq (wsr (wl rfl (obuild (ps:=#[(0,.int .u64 2),(1,.int .u64 3)]) (v:=.agg #[.int .u64 2,.int .u64 3]) rfl rfl (parts2 (evc (v:=.int .u64 2)) (evc (v:=.int .u64 3))) (fun w => by simp [go_sem,Instr.build,Instr.fill]) ?_))))
  refine wmvc ?_
  refine wn1 (wBk ?_)
  refine wLp (σ := Nat) (fun i a9 w' => ∃ (fb:Nat → Value),a9 = act 43 (sets fb [(0,.int .u32 (n:Int)),(6,.agg #[.int .u64 2,.int .u64 3]),(7,.int .i64 (i:Int))]) ∧ Sep w [] w' ∧ (i ≤ 2) ∧ (∀ e,2 ≤ e → e < i + 2 → ¬ e ∣ n)) (fun i => 2 - i) (0) ⟨_,aSs ⟨rfl,rfl,rfl,trivial⟩,hS,by omega,fun e h1 h2 => by omega⟩ ?_
  clear hS; rintro i _ w1 ⟨fb,rfl,hS,hi,hs⟩
  refine wsr ?_
  by_cases hi2:i < 2
  ·
    refine wbc rfl rfl (bLs (decide_eq_true (by omega))) ?_
    refine wn1 (wSq ?_)
    refine wT (ev rfl rfl) ?_
    refine wk2 (wl rfl (oidx (cs:=[.int .u64 2,.int .u64 3]) (k:=i) (v:=.int .u64 ((i + 2:Nat):Int)) rfl rfl Tryz.runUnderlying110 Tryz.sizeOf69 Tryz.isAgg69 (ev rfl rfl) (ev rfl rfl) (two_at i hi2) ((by omega)) ?_))
    refine wav rfl rfl ?_
    refine wn2 (wmv rfl rfl ?_)
    refine wl rfl (oCv (u:=.int .u32 (n:Int)) (v:=.int .u64 (n:Int)) rfl rfl (ev rfl rfl) (cvI Tryz.runUnderlying38 Tryz.runUnderlying69 (wU6 (by omega) (by omega))) ?_)
    refine wmv rfl rfl ?_
    refine wbt (z:=.int .u64 (((n % (i + 2):Nat):Int))) rfl rfl rfl rfl (bin_rem (by omega) rfl) ?_
    by_cases hdv:n % (i + 2) = 0
    ·
      refine wbc rfl rfl (bEq (eqT (by omega))) ?_
      refine wn1 ?_
      refine wT (ev rfl rfl) ?_
      refine wsr (wmv rfl rfl ?_)
      refine wl rfl (oCv (u:=.int .u64 ((i + 2:Nat):Int)) (v:=.int .u32 ((i + 2:Nat):Int)) rfl rfl (ev rfl rfl) (cvI Tryz.runUnderlying69 Tryz.runUnderlying38 (wrap_u32 (by omega) (by omega))) ?_)
      refine wav rfl rfl ?_
      refine wn1 ?_
      refine wLv ?_
      refine blkR ?_
      refine thenR ?_
      refine thenR ?_
      refine blkR ?_
      refine thenR ?_
      have hld:=ld_is hn (by omega) (Nat.dvd_of_mod_eq_zero hdv) (hs)
      refine wr1 Tryz.results49 (tlT (v:=.int .u32 ((i + 2:Nat):Int)) rfl rfl) ?_
      exact ⟨_,_,rfl,⟨by rw [hld],rfl⟩,hS.new0⟩
    refine wbc rfl rfl (bEq (eqF (by omega))) ?_
    refine wn1 ?_
    refine wF (ev rfl rfl) ?_
    refine wSk (blkN (tNo (wreg (wbc (z:=.int .i64 ((i + 1:Nat):Int)) rfl rfl (bAd (wI6 (by omega) (by omega))) ?_))))
    refine wmv rfl rfl ?_
    refine wn1 ?_
    exact ⟨(i + 1), ⟨_, aSs (l := [(0, .int .u32 (n : Int)), (6, .agg #[.int .u64 2, .int .u64 3]), (7, .int .i64 (((i + 1 : Nat) : Int)))]) ⟨rfl, rfl, rfl, trivial⟩, hS.pick [] (by decide) rfl, by omega, fun e h1 h2 h3 => by
              by_cases e2:e = i + 2
              · exact hdv (e2 ▸ Nat.mod_eq_zero_of_dvd h3)
              exact hs e h1 (by omega) h3⟩,by omega⟩
  refine wbc rfl rfl (bLs (decide_eq_false (by omega))) ?_
  refine wn1 (wSq ?_)
  refine wF (ev rfl rfl) ?_
  refine wEx ?_
  refine tEx ?_
  refine tEx ?_
  refine blkE ?_
  refine tNo (wSq (wsr (wavc ?_)))
  refine wn1 (wBk ?_)
  obtain rfl:i = 2:=by omega
  have n2:=hs 2 (by omega) (by omega)
  have hs5:∀ e,2 ≤ e → e < 5 → ¬ e ∣ n:=fun e h1 h2 h3 => by
    by_cases e4:e = 4
    · exact n2 (Nat.dvd_trans (by omega) h3)
    exact hs e h1 (by omega) h3
  refine wLp (σ := Nat) (fun d a9 w' => ∃ (fb:Nat → Value),a9 = act 43 (sets fb [(0,.int .u32 (n:Int)),(5,.int .u64 (d:Int))]) ∧ Sep w [] w' ∧ (5 ≤ d ∧ d % 6 = 5 ∧ d ≤ 65541) ∧ (∀ e,2 ≤ e → e < d → ¬ e ∣ n)) (fun d => n + 6 - d) (5) ⟨_,aSs ⟨rfl,rfl,trivial⟩,hS,by omega,hs5⟩ ?_
  clear hS; rintro d _ w2 ⟨fb,rfl,hS,hd5,hs2⟩
  refine wSq (wsr (wmv rfl rfl ?_))
  refine wmv rfl rfl ?_
  have hdd:=mul_bd (x:=d) (y:=d) (by omega) (by omega)
  refine wbt (z:=.int .u64 ((d * d:Nat):Int)) rfl rfl rfl rfl (bin_mul (mul_u64 (by omega) (by omega))) ?_
  refine wmv rfl rfl ?_
  refine wl rfl (oCv (u:=.int .u32 (n:Int)) (v:=.int .u64 (n:Int)) rfl rfl (ev rfl rfl) (cvI Tryz.runUnderlying38 Tryz.runUnderlying69 (wU6 (by omega) (by omega))) ?_)
  by_cases hle:d * d ≤ n
  ·
    refine wbt rfl rfl rfl rfl (bin_leq (decide_eq_true (by omega))) ?_
    refine wn1 ?_
    refine wT (ev rfl rfl) ?_
    refine wSk (tNo (wSq (wBk (wSq (wsr (wmv rfl rfl ?_))))))
    have hd6:d ≤ 65535:=by
      rcases Nat.lt_or_ge 65535 d with h | h
      · have:=Nat.mul_le_mul h h; omega
      exact h
    have hdn:d ≤ n:=Nat.le_trans (Nat.le_mul_self d) hle
    refine wl rfl (oCv (u:=.int .u32 (n:Int)) (v:=.int .u64 (n:Int)) rfl rfl (ev rfl rfl) (cvI Tryz.runUnderlying38 Tryz.runUnderlying69 (wU6 (by omega) (by omega))) ?_)
    refine wmv rfl rfl ?_
    refine wbt (z:=.int .u64 ((n % d:Nat):Int)) rfl rfl rfl rfl (bin_rem (by omega) rfl) ?_
    by_cases hdv:n % d = 0
    ·
      refine wbc rfl rfl (bEq (eqT (by omega))) ?_
      refine wn1 ?_
      refine wT (ev rfl rfl) ?_
      refine wsr (wmv rfl rfl ?_)
      refine wl rfl (oCv (u:=.int .u64 (d:Int)) (v:=.int .u32 (d:Int)) rfl rfl (ev rfl rfl) (cvI Tryz.runUnderlying69 Tryz.runUnderlying38 (wrap_u32 (by omega) (by omega))) ?_)
      refine wav rfl rfl ?_
      refine wn1 ?_
      refine wLv ?_
      refine thenR ?_
      refine blkR ?_
      refine thenR ?_
      refine thenR ?_
      refine blkR ?_
      refine thenR ?_
      have hld:=ld_is hn (by omega) (Nat.dvd_of_mod_eq_zero hdv) (hs2)
      refine wr1 Tryz.results49 (tlT (v:=.int .u32 (d:Int)) rfl rfl) ?_
      exact ⟨_,_,rfl,⟨by rw [hld],rfl⟩,hS.new0⟩
    refine wbc rfl rfl (bEq (eqF (by omega))) ?_
    refine wn1 ?_
    refine wF (ev rfl rfl) ?_
    refine wSk (tNo (wsr (wmv rfl rfl ?_)))
    have hnd:¬ d ∣ n:=fun h => hdv (Nat.mod_eq_zero_of_dvd h)
    have hs3:=ld_two hs2 hd5.2.1 hd5.1 hnd
    refine wl rfl (oCv (u:=.int .u32 (n:Int)) (v:=.int .u64 (n:Int)) rfl rfl (ev rfl rfl) (cvI Tryz.runUnderlying38 Tryz.runUnderlying69 (wU6 (by omega) (by omega))) ?_)
    refine wmv rfl rfl ?_
    refine wbc (z:=.int .u64 ((d + 2:Nat):Int)) rfl rfl (bAd (wU6 (by omega) (by omega))) ?_
    refine wbt (z:=.int .u64 (((n % (d + 2):Nat):Int))) rfl rfl rfl rfl (bin_rem (by omega) rfl) ?_
    by_cases hdv2:n % (d + 2) = 0
    ·
      refine wbc rfl rfl (bEq (eqT (by omega))) ?_
      refine wn1 ?_
      refine wT (ev rfl rfl) ?_
      refine wsr (wmv rfl rfl ?_)
      refine wbc (z:=.int .u64 ((d + 2:Nat):Int)) rfl rfl (bAd (wU6 (by omega) (by omega))) ?_
      refine wl rfl (oCv (u:=.int .u64 ((d + 2:Nat):Int)) (v:=.int .u32 ((d + 2:Nat):Int)) rfl rfl (ev rfl rfl) (cvI Tryz.runUnderlying69 Tryz.runUnderlying38 (wrap_u32 (by omega) (by omega))) ?_)
      refine wav rfl rfl ?_
      refine wn1 ?_
      refine wLv ?_
      refine blkR ?_
      refine thenR ?_
      refine thenR ?_
      refine blkR ?_
      refine thenR ?_
      have hld:=ld_is hn (by omega) (Nat.dvd_of_mod_eq_zero hdv2) hs3
      refine wr1 Tryz.results49 (tlT (v:=.int .u32 ((d + 2:Nat):Int)) rfl rfl) ?_
      exact ⟨_,_,rfl,⟨by rw [hld],rfl⟩,hS.new0⟩
    refine wbc rfl rfl (bEq (eqF (by omega))) ?_
    refine wn1 ?_
    refine wF (ev rfl rfl) ?_
    refine wSk (blkN (tNo (wreg (wmv rfl rfl ?_))))
    refine wbc (z:=.int .u64 ((d + 6:Nat):Int)) rfl rfl (bAd (wU6 (by omega) (by omega))) ?_
    refine wav rfl rfl ?_
    refine wn1 ?_
    exact ⟨(d + 6),⟨_,aSs ⟨rfl,rfl,trivial⟩,hS.pick [] (by decide) rfl,by omega,ld_step hs2 hd5.2.1 hd5.1 hnd (fun h => hdv2 (Nat.mod_eq_zero_of_dvd h))⟩,by omega⟩
  refine wbt rfl rfl rfl rfl (bin_leq (decide_eq_false (by omega))) ?_
  refine wn1 ?_
  refine wF (ev rfl rfl) ?_
  refine wEx ?_
  refine tEx ?_
  refine tEx ?_
  refine blkE ?_
  refine tNo (wsr (wmv rfl rfl ?_))
  refine wav rfl rfl ?_
  refine wn1 ?_
  refine wLv ?_
  have hld:=ld_end hn hs2 (by omega)
  refine wr1 Tryz.results49 (tlT (v:=.int .u32 (n:Int)) rfl rfl) ?_
  exact ⟨_,_,rfl,⟨by rw [hld],rfl⟩,hS.new0⟩
theorem wsis {n:Nat} {w:World} (hn2:n < 4294967296) {b:Bool} (hb:b = true ↔ MR.Pr n) :
  Calls Tryz.prog 29 #[.int .u32 (n:Int)] w (Ret (Is (.bool b)) w):=by
 have hS:=Sep.init w
 refine went Tryz.func29 rfl (n:=11) rfl rfl ?_
 refine wsr (wavc ?_)
 refine wn2 (wmv rfl rfl ?_)
 by_cases h1:1 < n
 ·
  refine wbc rfl rfl (bin_gtr (decide_eq_true (by omega))) ?_
  refine wmv rfl rfl ?_
  refine wlOn (e:=5) rfl rfl rfl rfl (omove rfl rfl (ev rfl rfl) ?_)
  refine wlOn (e:=5) rfl rfl rfl rfl (oCl rfl rfl Tryz.call49 rfl (wsleast h1 hn2) (ar1 (ev rfl rfl)) ?_)
  rintro _ w1 ⟨_,_,rfl,⟨rfl,rfl⟩,hN⟩
  refine ⟨_,rfl,?_⟩
  replace hS:=hS.news hN; clear hN
  refine wlOn (e:=5) rfl rfl rfl rfl (omove rfl rfl (ev rfl rfl) ?_)
  by_cases hl:ld n = n
  ·
   refine wlOn (e:=5) rfl rfl rfl rfl (obin rfl rfl (ev rfl rfl) (ev rfl rfl) (bEq (eqT (by rw [hl]))) ?_)
   refine wl rfl (opick rfl rfl (ev rfl rfl) (ev rfl rfl) ?_)
   refine wav rfl rfl ?_
   refine wn1 ?_
   refine wLv ?_
   have hbv:b = true:=hb.2 ((ld_pr h1).1 hl)
   refine wr1 Tryz.results29 (tlT (v:=.bool true) rfl rfl) ?_
   exact ⟨_,_,rfl,⟨by rw [hbv],rfl⟩,hS.new0⟩
  refine wlOn (e:=5) rfl rfl rfl rfl (obin rfl rfl (ev rfl rfl) (ev rfl rfl) (bEq (eqF (fun h => hl (by omega)))) ?_)
  refine wl rfl (opick rfl rfl (ev rfl rfl) (ev rfl rfl) ?_)
  refine wav rfl rfl ?_
  refine wn1 ?_
  refine wLv ?_
  have hbv:b = false:=by
   cases hbb:b with
   | false => rfl
   | true => exact absurd ((ld_pr h1).2 (hb.1 hbb)) hl
  refine wr1 Tryz.results29 (tlT (v:=.bool false) rfl rfl) ?_
  exact ⟨_,_,rfl,⟨by rw [hbv],rfl⟩,hS.new0⟩
 refine wbc rfl rfl (bin_gtr (decide_eq_false (by omega))) ?_
 refine wmv rfl rfl ?_
 refine wlOff (e:=5) (d:=6) (b':=false) rfl rfl rfl rfl rfl rfl ?_
 refine wlOff (e:=5) (d:=7) (b':=false) rfl rfl rfl rfl rfl rfl ?_
 refine wlOff (e:=5) (d:=8) (b':=false) rfl rfl rfl rfl rfl rfl ?_
 refine wlOff (e:=5) (d:=9) (b':=false) rfl rfl rfl rfl rfl rfl ?_
 refine wl rfl (opick rfl rfl (ev rfl rfl) evc ?_)
 refine wav rfl rfl ?_
 refine wn1 ?_
 refine wLv ?_
 have hbv:b = false:=by
  cases hbb:b with
  | false => rfl
  | true => have:=(hb.1 hbb).1; omega
 refine wr1 Tryz.results29 (tlT (v:=.bool false) rfl rfl) ?_
 exact ⟨_,_,rfl,⟨by rw [hbv],rfl⟩,hS.new0⟩
end Go.Proofs.YtjnpdpcldmjdjaaGreatDoor
