/-
  Contracts and lemmas, joined in one text.
-/
import Derived.Test.YthnilcgmljecdaaDoorB1
import Derived.Test.YthnilcgmljecdaaDoorB3
set_option linter.unusedVariables false
set_option linter.unusedSimpArgs false
/-
  How many primes lie below a number.
-/
set_option maxRecDepth 100000
set_option maxHeartbeats 16000000
namespace Go.Proofs.YthnilcgmljecdaaDoor
def cb:Nat → Nat → Nat
  | _,0 => 1
  | 0,_ + 1 => 0
  | n + 1,k + 1 => cb n k + cb n (k + 1)
theorem cb_zero (n:Nat):cb n 0 = 1:=by cases n <;> rfl
theorem cb_next (n k:Nat):cb (n + 1) (k + 1) = cb n k + cb n (k + 1):=rfl
theorem cb_pos:∀ {n k:Nat},k ≤ n → 0 < cb n k
 | n,0,_ => by rw [cb_zero]; decide
 | 0,k + 1,h => by omega
 | n + 1,k + 1,h => by
  have:=cb_pos (n:=n) (k:=k) (by omega)
  rw [cb_next]; omega
theorem cb_mul:∀ n k,(k + 1) * cb (n + 1) (k + 1) = (n + 1) * cb n k
 | 0,0 => rfl
 | 0,k + 1 => by rw [cb_next]; show (k + 1 + 1) * (0 + 0) = (0 + 1) * 0; omega
 | n + 1,0 => by
  have h:=cb_mul n 0
  rw [cb_next,cb_zero,Nat.mul_add,h,cb_zero]; omega
 | n + 1,k + 1 => by
  have h1:=cb_mul n k
  have h2:=cb_mul n (k + 1)
  rw [cb_next (n + 1) (k + 1),Nat.mul_add,h2,Nat.add_mul (k + 1) 1,h1,cb_next n k]
  simp only [Nat.mul_add,Nat.add_mul]
  omega
theorem cb_three (n k:Nat):((k + 1) * cb (n + 1) (k + 1)) * ((k + 2) * cb (n + 1) (k + 2)) = ((k + 1) * cb n (k + 1)) * ((k + 1) * cb (n + 1) (k + 1) + (k + 2) * cb (n + 1) (k + 2)):=by
  have h1:=cb_mul n k
  have h2:=cb_mul n (k + 1)
  rw [show (k + 2) * cb (n + 1) (k + 2) = (n + 1) * cb n (k + 1) from h2]
  conv => rhs; rw [h1, ← Nat.mul_add, ← cb_next]
  simp only [Nat.mul_comm,Nat.mul_left_comm,Nat.mul_assoc]
theorem dvd_three {A B C M:Nat} (hA:A ∣ M) (hB:B ∣ M) (h0:0 < A) (h:A * C = B * (A + C)):C ∣ M:=by
 obtain ⟨x,hx⟩:=hA
 obtain ⟨y,hy⟩:=hB
 have h1:A * (C * y) = A * (M + x * C):=by
  have e1:A * (C * y) = (B * y) * (A + C):=by rw [← Nat.mul_assoc,h,Nat.mul_right_comm]
  rw [e1, ← hy,Nat.mul_add,Nat.mul_add,Nat.mul_comm M A, ← Nat.mul_assoc A x C, ← hx]
 have h2:=Nat.eq_of_mul_eq_mul_left h0 h1
 have h3:C ∣ M + x * C:=⟨y,h2.symm⟩
 exact (Nat.dvd_add_left (Nat.dvd_mul_left C x)).1 h3
theorem cb_dvd {M N:Nat} (hM:∀ j,1 ≤ j → j ≤ N → j ∣ M):∀ k n,k ≤ n → n + 1 ≤ N → (k + 1) * cb (n + 1) (k + 1) ∣ M
 | 0,n,_,hn => by
  rw [cb_mul,cb_zero,Nat.mul_one]; exact hM _ (by omega) hn
 | k + 1,n,hk,hn => by
  obtain ⟨n',rfl⟩:∃ n',n = n' + 1:=⟨n - 1,by omega⟩
  have hA:=cb_dvd hM k (n' + 1) (by omega) hn
  have hB:=cb_dvd hM k n' (by omega) (by omega)
  refine dvd_three hA hB ?_ (cb_three (n' + 1) k)
  exact Nat.mul_pos (by omega) (cb_pos (by omega))
theorem two_cb:∀ m,2 ^ m ≤ cb (2 * m) m
 | 0 => Nat.le_refl _
 | m + 1 => by
  have h:=two_cb m
  have h1:cb (2 * m) m ≤ cb (2 * m + 1) m:=by
   cases m with
   | zero => rw [cb_zero,cb_zero]; exact Nat.le_refl _
   | succ j => rw [cb_next]; omega
  have h2:cb (2 * m) m ≤ cb (2 * m + 1) (m + 1):=by rw [cb_next]; omega
  rw [show 2 * (m + 1) = 2 * m + 1 + 1 by omega,cb_next,Nat.pow_succ]
  omega
theorem pow_top {p N:Nat} (hN:1 ≤ N):∀ e,N < p ^ e → ∃ e',p ^ e' ≤ N ∧ N < p ^ (e' + 1)
 | 0,h => by rw [Nat.pow_zero] at h; omega
 | e + 1,h => by
  by_cases h1:N < p ^ e
  ·exact pow_top hN e h1
  ·exact ⟨e,by omega,h⟩
theorem split_off {p:Nat} (hp:2 ≤ p):∀ n j,j ≤ n → 1 ≤ j → ∃ a j',j = p ^ a * j' ∧ ¬ p ∣ j'
 | 0,j,h,h1 => by omega
 | n + 1,j,h,h1 => by
  by_cases hd:p ∣ j
  ·obtain ⟨x,rfl⟩:=hd
   have hx:1 ≤ x:=Nat.pos_of_ne_zero fun e => by subst e; omega
   have hlt:x < p * x:=by have:=Nat.mul_le_mul_right x hp; omega
   obtain ⟨a,j',h2,h3⟩:=split_off hp n x (by omega) hx
   exact ⟨a + 1,j',by rw [Nat.pow_succ,Nat.mul_assoc,Nat.mul_left_comm, ← h2],h3⟩
  ·exact ⟨0,j,by rw [Nat.pow_zero,Nat.one_mul],hd⟩
theorem multiple {N:Nat} (hN:1 ≤ N):∀ P:List Nat,(∀ p ∈ P,2 ≤ p) → ∃ M,M ≤ N ^ P.length ∧ 0 < M ∧ ∀ j,1 ≤ j → j ≤ N → (∀ q,MR.Pr q → q ∣ j → q ∈ P) → j ∣ M
 | [],_ => ⟨1,Nat.le_refl _,by decide,fun j h1 _ hq => by
  by_cases h2:2 ≤ j
  ·obtain ⟨q,h3,h4⟩:=MR.pr_ex j h2
   exact absurd (hq q h3 h4) (by simp)
  ·obtain rfl:j = 1:=by omega
   exact Nat.dvd_refl _⟩
 | p :: P,hP => by
  have hp:=hP p List.mem_cons_self
  obtain ⟨M,h1,h0,h2⟩:=multiple hN P (fun q hq => hP q (List.mem_cons_of_mem _ hq))
  obtain ⟨e,he1,he2⟩:=pow_top (p:=p) hN N (Nat.lt_pow_self (by omega))
  refine ⟨p ^ e * M,?_,Nat.mul_pos (Nat.pow_pos (by omega)) h0,fun j hj1 hj2 hq => ?_⟩
  ·rw [List.length_cons,Nat.pow_succ,Nat.mul_comm (N ^ P.length)]
   exact Nat.mul_le_mul he1 h1
  ·obtain ⟨a,j',rfl,hn⟩:=split_off hp j j (Nat.le_refl _) hj1
   have hj0:0 < j':=Nat.pos_of_ne_zero fun e => by subst e; omega
   have ha:p ^ a ≤ p ^ a * j':=Nat.le_mul_of_pos_right _ hj0
   have hae:a ≤ e:=by
    refine Nat.le_of_not_lt fun h => ?_
    have:=Nat.pow_le_pow_right (show 0 < p by omega) (show e + 1 ≤ a from h)
    omega
   have hjle:j' ≤ p ^ a * j':=Nat.le_mul_of_pos_left _ (Nat.pow_pos (by omega))
   refine Nat.mul_dvd_mul (Nat.pow_dvd_pow p hae) (h2 j' hj0 (by omega) fun q h3 h4 => ?_)
   rcases List.mem_cons.1 (hq q h3 (Nat.dvd_trans h4 (Nat.dvd_mul_left _ _))) with h5 | h5
   ·subst h5; exact absurd h4 hn
   ·exact h5
theorem prs_has {q:Nat} (hq:MR.Pr q):∀ n,q < n → q ∈ prs n
 | 0,h => by omega
 | n + 1,h => by
  by_cases e:MR.Pr n
  ·rw [prs_take e]
   by_cases e2:q = n
   ·subst e2; exact List.mem_cons_self
   ·exact List.mem_cons_of_mem _ (prs_has hq n (by omega))
  ·rw [prs_skip e]
   exact prs_has hq n (by
    have:q ≠ n:=fun h => e (h ▸ hq)
    omega)
theorem prs_many {m:Nat} (hm:1 ≤ m):2 ^ m ≤ (2 * m) ^ (prs (2 * m + 1)).length:=by
  obtain ⟨M,h1,h0,h2⟩:=multiple (N:=2 * m) (by omega) (prs (2 * m + 1)) (fun p hp => (prs_mem _ hp).1.1)
  have h3:∀ j,1 ≤ j → j ≤ 2 * m → j ∣ M:=fun j hj1 hj2 => h2 j hj1 hj2 fun q hq hd => prs_has hq _ (by have:=Nat.le_of_dvd hj1 hd; omega)
  obtain ⟨k,rfl⟩:∃ k,m = k + 1:=⟨m - 1,by omega⟩
  have h4:=cb_dvd h3 k (2 * k + 1) (by omega) (by omega)
  have h5:=Nat.le_of_dvd h0 h4
  have h6:=two_cb (k + 1)
  rw [show 2 * (k + 1) = 2 * k + 1 + 1 by omega] at h6
  have h7:cb (2 * k + 1 + 1) (k + 1) ≤ (k + 1) * cb (2 * k + 1 + 1) (k + 1):=Nat.le_mul_of_pos_left _ (by omega)
  omega
theorem prs_count {m:Nat} (hm:2 * m = 4294967296):67108864 ≤ (prs (2 * m + 1)).length:=by
  have h:=prs_many (m:=m) (by omega)
  obtain ⟨L,hL⟩:∃ L,(prs (2 * m + 1)).length = L:=⟨_,rfl⟩
  rw [hL] at h ⊢
  rw [hm,show 4294967296 = 2 ^ 32 by decide, ← Nat.pow_mul] at h
  have h2:=(Nat.pow_le_pow_iff_right (a:=2) (by decide)).1 h
  omega
theorem no_even {n:Nat} (h:2 ∣ n) (h2:2 < n):¬ MR.Pr n:=fun hp => by
  rcases hp.2 2 h with h3 | h3 <;> omega
theorem prs_count2:67108864 ≤ (prs 4294967295).length:=by
 have h:=prs_count (m:=2147483648) rfl
 rw [show 2 * 2147483648 + 1 = 4294967296 + 1 from rfl,prs_skip (no_even (by decide) (by decide)),show 4294967296 = 4294967295 + 1 from rfl,prs_skip (fun hp => by
  have:=hp.2 3 (by decide); omega)] at h
 exact h
end Go.Proofs.YthnilcgmljecdaaDoor
/-
  What Choose chooses,plainly.
-/
namespace Go.Proofs.YthnilcgmljecdaaDoor
def sel (z:Int) (P:List Nat):List Nat:=P.filter fun p => decide (z % (p:Int) ≠ 0)
theorem sel_skip {z:Int} {P:List Nat} {p:Nat} (h:z % (p:Int) = 0):sel z (P ++ [p]) = sel z P:=by
  unfold sel; rw [List.filter_append,List.filter_cons_of_neg (by simp [h])]; simp
theorem sel_take {z:Int} {P:List Nat} {p:Nat} (h:z % (p:Int) ≠ 0):sel z (P ++ [p]) = sel z P ++ [p]:=by
  unfold sel; rw [List.filter_append,List.filter_cons_of_pos (by simp [h])]; simp
theorem sel_mem {z:Int} {P:List Nat} {p:Nat} (h:p ∈ sel z P):p ∈ P ∧ z % (p:Int) ≠ 0:=by
  unfold sel at h
  have:=List.mem_filter.1 h
  exact ⟨this.1,by simpa using this.2⟩
def prodl:List Nat → Nat
  | [] => 1
  | p :: r => p * prodl r
theorem foldl_mul:∀ (l:List Nat) (a:Nat),l.foldl (· * ·) a = a * prodl l
  | [],a => by rw [prodl,Nat.mul_one]; rfl
  | p :: r,a => by rw [prodl,List.foldl_cons,foldl_mul r,Nat.mul_assoc]
theorem pdn_prodl (l:List Nat):pdn l = prodl l:=by unfold pdn; rw [foldl_mul,Nat.one_mul]
theorem two_prodl:∀ (l:List Nat),(∀ p ∈ l,2 ≤ p) → 2 ^ l.length ≤ prodl l
 | [],_ => Nat.le_refl _
 | p :: r,h => by
  rw [prodl,List.length_cons,Nat.pow_succ,Nat.mul_comm]
  exact Nat.mul_le_mul (h p List.mem_cons_self) (two_prodl r fun q hq => h q (List.mem_cons_of_mem _ hq))
theorem pr_prodl {p:Nat} (hp:MR.Pr p):∀ (l:List Nat),(∀ q ∈ l,MR.Pr q) → p ∣ prodl l → p ∈ l
 | [],_,h => by
  rw [prodl] at h
  have:=Nat.le_of_dvd (by decide) h
  have:=hp.1
  omega
 | q :: r,hq,h => by
  rw [prodl] at h
  rcases hp.dvd_mul h with h1 | h1
  ·have h2:=(hq q List.mem_cons_self).2 p h1
   have:=hp.1
   rcases h2 with h2 | h2
   ·omega
   ·rw [h2]; exact List.mem_cons_self
  ·exact List.mem_cons_of_mem _ (pr_prodl hp r (fun x hx => hq x (List.mem_cons_of_mem _ hx)) h1)
theorem prodl_dvd {D:Nat}:∀ (l:List Nat),l.Nodup → (∀ p ∈ l,MR.Pr p ∧ p ∣ D) → prodl l ∣ D
 | [],_,_ => Nat.one_dvd _
 | p :: r,hn,h => by
  obtain ⟨x,hx⟩:=prodl_dvd r (List.nodup_cons.1 hn).2 (fun q hq => h q (List.mem_cons_of_mem _ hq))
  obtain ⟨hp,hd⟩:=h p List.mem_cons_self
  rw [hx] at hd
  rcases hp.dvd_mul hd with h1 | h1
  ·exact absurd (pr_prodl hp r (fun q hq => (h q (List.mem_cons_of_mem _ hq)).1) h1) (List.nodup_cons.1 hn).1
  ·obtain ⟨y,rfl⟩:=h1
   exact ⟨y,by rw [hx,prodl,Nat.mul_left_comm,Nat.mul_assoc]⟩
theorem prs_nodup:∀ n,(prs n).Nodup
 | 0 => by rw [prs]; exact List.nodup_nil
 | n + 1 => by
  by_cases e:MR.Pr n
  ·rw [prs_take e]
   exact List.nodup_cons.2 ⟨fun h => by have:=(prs_mem n h).2; omega,prs_nodup n⟩
  ·rw [prs_skip e]; exact prs_nodup n
theorem filter_both {f:Nat → Bool}:∀ l:List Nat,(l.filter f).length + (l.filter fun x => !f x).length = l.length
 | [] => rfl
 | x :: r => by
  have:=filter_both (f:=f) r
  rw [List.filter_cons,List.filter_cons,List.length_cons]
  cases f x <;> simp <;> omega
theorem leastQ {Q:Nat → Prop}:∀ n,Q n → ∃ k,k ≤ n ∧ Q k ∧ ∀ j,j < k → ¬ Q j:=by
 intro n
 induction n using Nat.strongRecOn with
 | ind n ih =>
  intro h
  by_cases h1:∃ j,j < n ∧ Q j
  ·obtain ⟨j,h2,h3⟩:=h1
   obtain ⟨k,k1,k2,k3⟩:=ih j h2 h3
   exact ⟨k,by omega,k2,k3⟩
  ·exact ⟨n,Nat.le_refl _,h,fun j hj hq => h1 ⟨j,hj,hq⟩⟩
noncomputable def PP:List Nat:=prs 4294967295
theorem PP_pr {p:Nat} (h:p ∈ PP):MR.Pr p:=(prs_mem _ h).1
theorem PP_lt {p:Nat} (h:p ∈ PP):p < 4294967295:=(prs_mem _ h).2
noncomputable def chF (z:Int) (k:Nat):Nat:=pdn (sel z (PP.take k))
theorem sel_two (z:Int) (k:Nat):2 ^ (sel z (PP.take k)).length ≤ chF z k:=by
  unfold chF
  rw [pdn_prodl]
  exact two_prodl _ fun p hp => (PP_pr (List.mem_of_mem_take (sel_mem hp).1)).1
theorem sel_many {z:Int} {N:Nat} (hN:N = 33554432) (h0:z ≠ 0) (hz:z.natAbs < 2 ^ N):33554432 ≤ (sel z PP).length:=by
 have h1:=filter_both (f:=fun p:Nat => decide (z % (p:Int) ≠ 0)) PP
 have h2:=prs_count2
 have h3:PP.length = (prs 4294967295).length:=rfl
 have h4:prodl (PP.filter fun p:Nat => !decide (z % (p:Int) ≠ 0)) ∣ z.natAbs:=prodl_dvd _ ((prs_nodup _).filter _) fun p hp => by
  obtain ⟨h5,h6⟩:=List.mem_filter.1 hp
  refine ⟨PP_pr h5,?_⟩
  have h7:z % (p:Int) = 0:=by simpa using h6
  exact Int.ofNat_dvd_left.1 (Int.dvd_of_emod_eq_zero h7)
 have h5:=Nat.le_of_dvd (Int.natAbs_pos.2 h0) h4
 have h6:=two_prodl (PP.filter fun p:Nat => !decide (z % (p:Int) ≠ 0)) fun p hp => (PP_pr (List.mem_filter.1 hp).1).1
 have h7:=(Nat.pow_lt_pow_iff_right (a:=2) (by decide)).1 (Nat.lt_of_le_of_lt (Nat.le_trans h6 h5) hz)
 have h8:(sel z PP).length = (PP.filter fun p:Nat => decide (z % (p:Int) ≠ 0)).length:=rfl
 omega
def E41:Nat:=4100
structure ChK (z:Int) (t k:Nat):Prop where
  le:k ≤ PP.length
  top:t < chF z k
  low:∀ j,j < k → chF z j ≤ t
theorem ch_ex {z:Int} {t N:Nat} (hN:N = 33554432) (h0:z ≠ 0) (hz:z.natAbs < 2 ^ N) (ht:t < 2 ^ E41):∃ k,ChK z t k:=by
  have h1:=sel_many hN h0 hz
  have h2:=sel_two z PP.length
  rw [List.take_length] at h2
  have h3:2 ^ E41 ≤ 2 ^ (sel z PP).length:=Nat.pow_le_pow_right (by decide) (by unfold E41; omega)
  obtain ⟨k,k1,k2,k3⟩   := leastQ (Q:=fun k => t < chF z k) PP.length (Nat.lt_of_lt_of_le ht (Nat.le_trans h3 h2))
  exact ⟨k,k1,k2,fun j hj => Nat.le_of_not_lt (k3 j hj)⟩
theorem ch_small {z:Int} {t k j:Nat} (h:ChK z t k) (ht:t < 2 ^ E41) (hj:j < k):(sel z (PP.take j)).length < 4100 :=
  show _ < E41 from (Nat.pow_lt_pow_iff_right (a:=2) (by decide)).1 (Nat.lt_of_le_of_lt (Nat.le_trans (sel_two z j) (h.low j hj)) ht)
theorem sel_next {z:Int} {j p:Nat} (hp:PP[j]? = some p):sel z (PP.take (j + 1)) = if z % (p:Int) = 0 then sel z (PP.take j) else sel z (PP.take j) ++ [p]:=by
  rw [List.take_add_one,hp]
  split
  · exact sel_skip ‹_›
  · exact sel_take ‹_›
theorem ch_len {z:Int} {t k:Nat} (h:ChK z t k) (ht:t < 2 ^ E41):(sel z (PP.take k)).length ≤ 4100:=by
 cases k with
 | zero => simp [sel]
 | succ j =>
  have h1:=ch_small h ht (show j < j + 1 by omega)
  have hj:j < PP.length:=h.le
  rw [sel_next (List.getElem?_eq_getElem hj)]
  split
  ·omega
  ·rw [List.length_append]; simp; omega
end Go.Proofs.YthnilcgmljecdaaDoor
/-
  bound.Choose in general.
-/
namespace Go.Proofs.YthnilcgmljecdaaDoor
open Go.RowKit
def DV (g7 g8 g2 g6:Nat) (bd:Bool) (pd:Option Addr) (nd_ cd nt ct:Nat) (pt po:Option Addr) (co:Nat) (pz:Option Addr) (nz cz F t:Nat) (xs:List Nat) (FIX:List Res):List Res :=
  .blk g7 [.slice po xs.length co] 25 :: .blk g8 [.bool (ng (F:Int)),.slice pz nz cz] 28 :: .rowm po xs.length co xs :: .row pz nz cz (lim (F:Int).natAbs) :: .blk g2 [.bool bd,.slice pd nd_ cd] 28 :: .blk g6 [.bool (ng (t:Int)),.slice pt nt ct] 28 :: .row pt nt ct (lim (t:Int).natAbs) :: FIX
theorem DV.mid {w0 w:World} {gO gZ gD gT:Nat} {bd:Bool} {pd:Option Addr} {nd_ cd nt ct:Nat} {pt po:Option Addr} {co:Nat} {pz:Option Addr} {nz cz F t:Nat} {xs:List Nat} {Rf FIX:List Res} (h:Sep w0 (Rf ++ DV gO gZ gD gT bd pd nd_ cd nt ct pt po co pz nz cz F t xs FIX) w):Sep w0 ([.blk gO [.slice po xs.length co] 25,.blk gZ [.bool (ng (F:Int)),.slice pz nz cz] 28,.rowm po xs.length co xs,.row pz nz cz (lim (F:Int).natAbs),.blk gD [.bool bd,.slice pd nd_ cd] 28,.blk gT [.bool (ng (t:Int)),.slice pt nt ct] 28,.row pt nt ct (lim (t:Int).natAbs)] ++ (Rf ++ FIX)) w:=Sep.midN (A:=[.blk gO [.slice po xs.length co] 25,.blk gZ [.bool (ng (F:Int)),.slice pz nz cz] 28,.rowm po xs.length co xs,.row pz nz cz (lim (F:Int).natAbs),.blk gD [.bool bd,.slice pd nd_ cd] 28,.blk gT [.bool (ng (t:Int)),.slice pt nt ct] 28,.row pt nt ct (lim (t:Int).natAbs)]) h
theorem DV.back {w0 w:World} {gO gZ gD gT:Nat} {bd:Bool} {pd:Option Addr} {nd_ cd nt ct:Nat} {pt po:Option Addr} {co:Nat} {pz:Option Addr} {nz cz F t:Nat} {xs:List Nat} {Rf FIX:List Res} (h:Sep w0 ([.blk gO [.slice po xs.length co] 25,.blk gZ [.bool (ng (F:Int)),.slice pz nz cz] 28,.rowm po xs.length co xs,.row pz nz cz (lim (F:Int).natAbs),.blk gD [.bool bd,.slice pd nd_ cd] 28,.blk gT [.bool (ng (t:Int)),.slice pt nt ct] 28,.row pt nt ct (lim (t:Int).natAbs)] ++ (Rf ++ FIX)) w):Sep w0 (Rf ++ DV gO gZ gD gT bd pd nd_ cd nt ct pt po co pz nz cz F t xs FIX) w:=Sep.front1 h
theorem DV.rest {w0 w:World} {D:Nat} {o:Obj} {gO gZ gD gT:Nat} {bd:Bool} {pd:Option Addr} {nd_ cd nt ct:Nat} {pt po:Option Addr} {co:Nat} {pz:Option Addr} {nz cz F t:Nat} {xs:List Nat} {r1 r2:Res} (h:Sep w0 (.obj D o :: DV gO gZ gD gT bd pd nd_ cd nt ct pt po co pz nz cz F t xs [r1,r2]) w):Sep w0 [.obj D o,.blk gO [.slice po xs.length co] 25,.rowm po xs.length co xs,r1,r2] w :=
  Sep.pickT (T:=[]) (.obj D o :: (([.blk gO [.slice po xs.length co] 25,.blk gZ [.bool (ng (F:Int)),.slice pz nz cz] 28,.rowm po xs.length co xs,.row pz nz cz (lim (F:Int).natAbs),.blk gD [.bool bd,.slice pd nd_ cd] 28,.blk gT [.bool (ng (t:Int)),.slice pt nt ct] 28,.row pt nt ct (lim (t:Int).natAbs)]:List Res) ++ [r1,r2])) [.obj D o,.blk gO [.slice po xs.length co] 25,.rowm po xs.length co xs,r1,r2] h [0,1,3,8,9] (by decide) rfl
def DI (gO gZ gD gT:Nat) (bd:Bool) (pd:Option Addr) (nd_ cd nt ct:Nat) (pt:Option Addr) (zd:Int) (t k:Nat) (FIX:List Res) (pre:List Nat) (Rc:List Res):Prop :=
  ∃ po co pz nz cz,pre.length ≤ k ∧ Rc = DV gO gZ gD gT bd pd nd_ cd nt ct pt po co pz nz cz (pdn (sel zd pre)) t (sel zd pre) FIX
def DX (gO gZ gD gT:Nat) (bd:Bool) (pd:Option Addr) (nd_ cd nt ct:Nat) (pt:Option Addr) (zd:Int) (t k:Nat) (FIX:List Res) (c:Code) (_:List Nat) (Rc:List Res):Prop :=
  c = .exit 0 ∧ ∃ po co pz nz cz,Rc = DV gO gZ gD gT bd pd nd_ cd nt ct pt po co pz nz cz (pdn (sel zd (PP.take k))) t (sel zd (PP.take k)) FIX
def DA (gO gZ gD gT:Nat) (bd:Bool) (pd:Option Addr) (nd_ cd nt ct:Nat) (pt:Option Addr) (zd:Int) (t k:Nat) (FIX:List Res) (pre:List Nat) (x:Nat) (f':Nat → Value) (Rc:List Res):Prop :=
  ∃ fa,f' = upd (upd fa 26 (.int .u32 ((x:Nat):Int))) 9 (.int .u32 ((x:Nat):Int)) ∧ fa 2 = .pointer (some ⟨gD,0,none⟩) ∧ fa 6 = .pointer (some ⟨gT,0,none⟩) ∧ fa 7 = .pointer (some ⟨gO,0,none⟩) ∧ fa 8 = .pointer (some ⟨gZ,0,none⟩) ∧ DI gO gZ gD gT bd pd nd_ cd nt ct pt zd t k FIX pre Rc
theorem ll_pow {t n k:Nat} (h:t < 2 ^ n) (hk:n ≤ 32 * k):ll t ≤ k:=ll_le (by
  rw [show 4294967296 = 2 ^ 32 by decide, ← Nat.pow_mul]
  exact Nat.lt_of_lt_of_le h (Nat.pow_le_pow_right (by decide) hk))
theorem take_pre {α : Type} {pre P:List α} {x : α} (h:pre ++ [x] <+: P):pre = P.take pre.length ∧ P[pre.length]? = some x:=by
  obtain ⟨r,rfl⟩:=h
  rw [List.append_assoc]
  exact ⟨(List.take_left' rfl).symm,by rw [List.getElem?_append_right (Nat.le_refl _),Nat.sub_self]; rfl⟩
theorem pick_rA {k0_ k1_ k2_ k3_ k4_ k5_ k6_ k7_ cB:Code} {g_:Operand} {ps_:Array Nat} {as_:Code} (hc:(Tryd.f12).body = some (.seq k7_ (.seq k6_ (.seq k5_ (.seq k4_ (.seq k3_ (.seq k2_ (.seq k1_ (.seq (.block 0 (.rangeFunc g_ ps_ as_ cB)) k0_))))))))) {l m x t F:Nat} {zd:Int} {xs:List Nat} {f:Nat → Value} {T Rf:List Res} {gO gZ gD gT:Nat} {bd:Bool} {pd:Option Addr} {nd_ cd nt ct:Nat} {pt:Option Addr} {FIX:List Res} {po pz:Option Addr} {co nz cz:Nat} {w0 w:World} {I:List Nat → List Res → Prop} {Ix:Code → List Nat → List Res → Prop} {L:List Nat} (hf:AllAt f [(2,.pointer (some ⟨gD,0,none⟩)),(6,.pointer (some ⟨gT,0,none⟩)),(7,.pointer (some ⟨gO,0,none⟩)),(8,.pointer (some ⟨gZ,0,none⟩)),(9,.int .u32 (((x:Nat):Int)))]) (hd:Zr w0 bd pd nd_ cd zd 1048580) (hkz:Wd ((F:Nat):Int) 200) (hkt:Wd ((t:Nat):Int) 200) (hx0:x ≠ 0) (hx2:x < 4294967295) (hF:t < F) (hX:∀ po co pz nz cz,Ix (.exit 0) L (DV gO gZ gD gT bd pd nd_ cd nt ct pt po co pz nz cz F t xs FIX)) (hT:T = Rf ++ FIX) (hS:Sep w0 (.blk gO [.slice po xs.length co] 25 :: .blk gZ [.bool (ng ((F:Nat):Int)),.slice pz nz cz] 28 :: .rowm po xs.length co xs :: .row pz nz cz (lim (((F:Nat):Int)).natAbs) :: .blk gD [.bool bd,.slice pd nd_ cd] 28 :: .blk gT [.bool (ng ((t:Nat):Int)),.slice pt nt ct] 28 :: .row pt nt ct (lim (((t:Nat):Int)).natAbs) :: T) w) :
  CR (some l) m Tryd.prog cB (roundEnd w0 I Ix Rf L) (act 52 f) w:=by
 obtain rfl:=(Code.rangeFunc.inj (Code.block.inj (Code.seq.inj (Code.seq.inj (Code.seq.inj (Code.seq.inj (Code.seq.inj (Code.seq.inj (Code.seq.inj (Code.seq.inj (Option.some.inj hc)).2).2).2).2).2).2).2).1).2).2.2.2
 clear hc
 rw [act_sets hf]
 refine rblock (rseq (rseq (rreg ?_)))
 refine rl rfl rfl (oload (vs:=[.bool (ng (F:Int)),.slice pz nz cz]) aggZ hS 1 rfl rfl (ev rfl rfl) rfl rfl rfl ?_)
 refine rl rfl rfl (oload (vs:=[.bool (ng (t:Int)),.slice pt nt ct]) aggZ hS 5 rfl rfl (ev rfl rfl) rfl rfl rfl ?_)
 obtain ⟨s1,hs1⟩:∃ z:Int,Hid (cmpZ (((F:Nat):Int)) (((t:Nat):Int)) = z):=⟨_,rfl⟩
 refine rl rfl rfl (ocall rfl rfl Tryd.call42 rfl (wzcmp (((hS.sl 3 rfl).zr hkz).mono (by omega)) (((hS.sl 6 rfl).zr hkt).mono (by omega)) hs1) (args2 (ev rfl rfl) (ev rfl rfl)) ?_)
 rintro _ w1 ⟨_,_,rfl,⟨rfl,rfl⟩,hN⟩
 refine ⟨_,rfl,?_⟩
 replace hS:=hS.news hN; clear hN
 refine rl rfl rfl (obin (u:=.int .i64 s1) (v:=.int .i64 0) (z:=.bool true) rfl rfl (ev rfl rfl) evc (bin_gtr ((cmpZ_gtD hs1).trans (decide_eq_true (by omega)))) ?_)
 refine rnil (thenN ?_)
 refine rT (ev rfl rfl) ?_
 refine rexit ?_
 refine thenE ?_
 refine blkX rfl ?_
 subst hT
 exact ⟨_,hX po co pz nz cz,DV.back hS⟩
theorem pick_rB {k0_ k1_ k2_ k3_ k4_ k5_ k6_ k7_ cB:Code} {g_:Operand} {ps_:Array Nat} {as_:Code} (hc:(Tryd.f12).body = some (.seq k7_ (.seq k6_ (.seq k5_ (.seq k4_ (.seq k3_ (.seq k2_ (.seq k1_ (.seq (.block 0 (.rangeFunc g_ ps_ as_ cB)) k0_))))))))) {l m x t F:Nat} {zd:Int} {xs:List Nat} {f:Nat → Value} {T Rf:List Res} {gO gZ gD gT:Nat} {bd:Bool} {pd:Option Addr} {nd_ cd nt ct:Nat} {pt:Option Addr} {FIX:List Res} {po pz:Option Addr} {co nz cz:Nat} {w0 w:World} {I:List Nat → List Res → Prop} {Ix:Code → List Nat → List Res → Prop} {L:List Nat} (hf:AllAt f [(2,.pointer (some ⟨gD,0,none⟩)),(6,.pointer (some ⟨gT,0,none⟩)),(7,.pointer (some ⟨gO,0,none⟩)),(8,.pointer (some ⟨gZ,0,none⟩)),(9,.int .u32 (((x:Nat):Int)))]) (hd:Zr w0 bd pd nd_ cd zd 1048580) (hkz:Wd ((F:Nat):Int) 200) (hkt:Wd ((t:Nat):Int) 200) (hx0:x ≠ 0) (hx2:x < 4294967295) (hF:F ≤ t) (hm:zd % ((x:Nat):Int) = 0) (hI:∀ po co pz nz cz,I L (DV gO gZ gD gT bd pd nd_ cd nt ct pt po co pz nz cz F t xs FIX)) (hT:T = Rf ++ FIX) (hS:Sep w0 (.blk gO [.slice po xs.length co] 25 :: .blk gZ [.bool (ng ((F:Nat):Int)),.slice pz nz cz] 28 :: .rowm po xs.length co xs :: .row pz nz cz (lim (((F:Nat):Int)).natAbs) :: .blk gD [.bool bd,.slice pd nd_ cd] 28 :: .blk gT [.bool (ng ((t:Nat):Int)),.slice pt nt ct] 28 :: .row pt nt ct (lim (((t:Nat):Int)).natAbs) :: T) w) :
  CR (some l) m Tryd.prog cB (roundEnd w0 I Ix Rf L) (act 52 f) w:=by
 obtain rfl:=(Code.rangeFunc.inj (Code.block.inj (Code.seq.inj (Code.seq.inj (Code.seq.inj (Code.seq.inj (Code.seq.inj (Code.seq.inj (Code.seq.inj (Code.seq.inj (Option.some.inj hc)).2).2).2).2).2).2).2).1).2).2.2.2
 clear hc
 rw [act_sets hf]
 refine rblock (rseq (rseq (rreg ?_)))
 refine rl rfl rfl (oload (vs:=[.bool (ng (F:Int)),.slice pz nz cz]) aggZ hS 1 rfl rfl (ev rfl rfl) rfl rfl rfl ?_)
 refine rl rfl rfl (oload (vs:=[.bool (ng (t:Int)),.slice pt nt ct]) aggZ hS 5 rfl rfl (ev rfl rfl) rfl rfl rfl ?_)
 obtain ⟨s1,hs1⟩:∃ z:Int,Hid (cmpZ (((F:Nat):Int)) (((t:Nat):Int)) = z):=⟨_,rfl⟩
 refine rl rfl rfl (ocall rfl rfl Tryd.call42 rfl (wzcmp (((hS.sl 3 rfl).zr hkz).mono (by omega)) (((hS.sl 6 rfl).zr hkt).mono (by omega)) hs1) (args2 (ev rfl rfl) (ev rfl rfl)) ?_)
 rintro _ w1 ⟨_,_,rfl,⟨rfl,rfl⟩,hN⟩
 refine ⟨_,rfl,?_⟩
 replace hS:=hS.news hN; clear hN
 refine rl rfl rfl (obin (u:=.int .i64 s1) (v:=.int .i64 0) (z:=.bool false) rfl rfl (ev rfl rfl) evc (bin_gtr (decide_eq_false (fun h => by have h9:=(cmpZ_gtD hs1).symm.trans (decide_eq_true h); have h8:=of_decide_eq_true h9; omega))) ?_)
 refine rnil (thenN ?_)
 refine rF (ev rfl rfl) ?_
 refine rskip (thenN (rseq (rseq (rreg ?_))))
 refine rl rfl rfl (oload (vs:=[.bool bd,.slice pd nd_ cd]) aggZ hS 4 rfl rfl (ev rfl rfl) rfl rfl rfl ?_)
 refine rl rfl rfl (omove (v:=.int .u32 (x:Int)) rfl rfl (ev rfl rfl) ?_)
 refine rl rfl rfl (ocall rfl rfl Tryd.call43 rfl (wzmod ((hd.at hS).mono (by omega)) (by omega) (by omega)) (args2 (ev rfl rfl) (ev rfl rfl)) ?_)
 rintro _ w2 ⟨_,_,rfl,⟨rfl,rfl⟩,hN⟩
 refine ⟨_,rfl,?_⟩
 replace hS:=hS.news hN; clear hN
 refine rl rfl rfl (omove (v:=.tuple #[.int .u32 (((zd % (x:Int)).toNat:Int)),.int .i64 0]) rfl rfl (ev rfl rfl) ?_)
 refine rl rfl rfl (oextract (vs:=[.int .u32 (((zd % (x:Int)).toNat:Int)),.int .i64 0]) (v:=.int .u32 (((zd % (x:Int)).toNat:Int))) rfl rfl (ev rfl rfl) rfl ?_)
 refine rl rfl rfl (oextract (vs:=[.int .u32 (((zd % (x:Int)).toNat:Int)),.int .i64 0]) (v:=.int .i64 0) rfl rfl (ev rfl rfl) rfl ?_)
 refine rl rfl rfl (oassign (v:=.int .u32 (((zd % (x:Int)).toNat:Int))) rfl rfl (ev rfl rfl) ?_)
 refine rl rfl rfl (oassign (v:=.int .i64 0) rfl rfl (ev rfl rfl) ?_)
 refine rnil (thenN (rseq (rreg ?_)))
 refine rl rfl rfl (omove (v:=.int .u32 (((zd % (x:Int)).toNat:Int))) rfl rfl (ev rfl rfl) ?_)
 refine rl rfl rfl (obin (u:=.int .u32 (((zd % (x:Int)).toNat:Int))) (v:=.int .u32 0) (z:=.bool true) rfl rfl (ev rfl rfl) evc (bin_eql (eqT (by rw [hm]; rfl))) ?_)
 refine rnil (thenN ?_)
 refine rT (ev rfl rfl) ?_
 refine rexit ?_
 refine thenE ?_
 refine blkE ?_
 obtain hS:=(show Sep w0 (.blk gO [.slice po xs.length co] 25 :: .blk gZ [.bool (ng ((F:Nat):Int)),.slice pz nz cz] 28 :: .rowm po xs.length co xs :: .row pz nz cz (lim (((F:Nat):Int)).natAbs) :: .blk gD [.bool bd,.slice pd nd_ cd] 28 :: .blk gT [.bool (ng ((t:Nat):Int)),.slice pt nt ct] 28 :: .row pt nt ct (lim (((t:Nat):Int)).natAbs) :: T) w2 from Sep.pickT [.blk gO [.slice po xs.length co] 25,.blk gZ [.bool (ng ((F:Nat):Int)),.slice pz nz cz] 28,.rowm po xs.length co xs,.row pz nz cz (lim (((F:Nat):Int)).natAbs),.blk gD [.bool bd,.slice pd nd_ cd] 28,.blk gT [.bool (ng ((t:Nat):Int)),.slice pt nt ct] 28,.row pt nt ct (lim (((t:Nat):Int)).natAbs)] [.blk gO [.slice po xs.length co] 25,.blk gZ [.bool (ng ((F:Nat):Int)),.slice pz nz cz] 28,.rowm po xs.length co xs,.row pz nz cz (lim (((F:Nat):Int)).natAbs),.blk gD [.bool bd,.slice pd nd_ cd] 28,.blk gT [.bool (ng ((t:Nat):Int)),.slice pt nt ct] 28,.row pt nt ct (lim (((t:Nat):Int)).natAbs)] hS [0,1,2,3,4,5,6] (by decide) rfl)
 subst hT
 exact ⟨_,hI po co pz nz cz,DV.back hS⟩
theorem pick_rC {k0_ k1_ k2_ k3_ k4_ k5_ k6_ k7_ cB:Code} {g_:Operand} {ps_:Array Nat} {as_:Code} (hc:(Tryd.f12).body = some (.seq k7_ (.seq k6_ (.seq k5_ (.seq k4_ (.seq k3_ (.seq k2_ (.seq k1_ (.seq (.block 0 (.rangeFunc g_ ps_ as_ cB)) k0_))))))))) {l m x t F:Nat} {zd:Int} {xs:List Nat} {f:Nat → Value} {T Rf:List Res} {gO gZ gD gT:Nat} {bd:Bool} {pd:Option Addr} {nd_ cd nt ct:Nat} {pt:Option Addr} {FIX:List Res} {po pz:Option Addr} {co nz cz:Nat} {w0 w:World} {I:List Nat → List Res → Prop} {Ix:Code → List Nat → List Res → Prop} {L:List Nat} (hf:AllAt f [(2,.pointer (some ⟨gD,0,none⟩)),(6,.pointer (some ⟨gT,0,none⟩)),(7,.pointer (some ⟨gO,0,none⟩)),(8,.pointer (some ⟨gZ,0,none⟩)),(9,.int .u32 (((x:Nat):Int)))]) (hd:Zr w0 bd pd nd_ cd zd 1048580) (hkz:Wd ((F:Nat):Int) 200) (hkt:Wd ((t:Nat):Int) 200) (hx0:x ≠ 0) (hx2:x < 4294967295) (hF:F ≤ t) (hm:zd % ((x:Nat):Int) ≠ 0) (hl:xs.length < 4100) (hI:∀ po co pz nz cz,I L (DV gO gZ gD gT bd pd nd_ cd nt ct pt po co pz nz cz (F * x) t (xs ++ [x]) FIX)) (hT:T = Rf ++ FIX) (hS:Sep w0 (.blk gO [.slice po xs.length co] 25 :: .blk gZ [.bool (ng ((F:Nat):Int)),.slice pz nz cz] 28 :: .rowm po xs.length co xs :: .row pz nz cz (lim (((F:Nat):Int)).natAbs) :: .blk gD [.bool bd,.slice pd nd_ cd] 28 :: .blk gT [.bool (ng ((t:Nat):Int)),.slice pt nt ct] 28 :: .row pt nt ct (lim (((t:Nat):Int)).natAbs) :: T) w) :
  CR (some l) m Tryd.prog cB (roundEnd w0 I Ix Rf L) (act 52 f) w:=by
 obtain rfl:=(Code.rangeFunc.inj (Code.block.inj (Code.seq.inj (Code.seq.inj (Code.seq.inj (Code.seq.inj (Code.seq.inj (Code.seq.inj (Code.seq.inj (Code.seq.inj (Option.some.inj hc)).2).2).2).2).2).2).2).1).2).2.2.2
 clear hc
 rw [act_sets hf]
 refine rblock (rseq (rseq (rreg ?_)))
 refine rl rfl rfl (oload (vs:=[.bool (ng (F:Int)),.slice pz nz cz]) aggZ hS 1 rfl rfl (ev rfl rfl) rfl rfl rfl ?_)
 refine rl rfl rfl (oload (vs:=[.bool (ng (t:Int)),.slice pt nt ct]) aggZ hS 5 rfl rfl (ev rfl rfl) rfl rfl rfl ?_)
 obtain ⟨s1,hs1⟩:∃ z:Int,Hid (cmpZ (((F:Nat):Int)) (((t:Nat):Int)) = z):=⟨_,rfl⟩
 refine rl rfl rfl (ocall rfl rfl Tryd.call42 rfl (wzcmp (((hS.sl 3 rfl).zr hkz).mono (by omega)) (((hS.sl 6 rfl).zr hkt).mono (by omega)) hs1) (args2 (ev rfl rfl) (ev rfl rfl)) ?_)
 rintro _ w1 ⟨_,_,rfl,⟨rfl,rfl⟩,hN⟩
 refine ⟨_,rfl,?_⟩
 replace hS:=hS.news hN; clear hN
 refine rl rfl rfl (obin (u:=.int .i64 s1) (v:=.int .i64 0) (z:=.bool false) rfl rfl (ev rfl rfl) evc (bin_gtr (decide_eq_false (fun h => by have h9:=(cmpZ_gtD hs1).symm.trans (decide_eq_true h); have h8:=of_decide_eq_true h9; omega))) ?_)
 refine rnil (thenN ?_)
 refine rF (ev rfl rfl) ?_
 refine rskip (thenN (rseq (rseq (rreg ?_))))
 refine rl rfl rfl (oload (vs:=[.bool bd,.slice pd nd_ cd]) aggZ hS 4 rfl rfl (ev rfl rfl) rfl rfl rfl ?_)
 refine rl rfl rfl (omove (v:=.int .u32 (x:Int)) rfl rfl (ev rfl rfl) ?_)
 refine rl rfl rfl (ocall rfl rfl Tryd.call43 rfl (wzmod ((hd.at hS).mono (by omega)) (by omega) (by omega)) (args2 (ev rfl rfl) (ev rfl rfl)) ?_)
 rintro _ w2 ⟨_,_,rfl,⟨rfl,rfl⟩,hN⟩
 refine ⟨_,rfl,?_⟩
 replace hS:=hS.news hN; clear hN
 refine rl rfl rfl (omove (v:=.tuple #[.int .u32 (((zd % (x:Int)).toNat:Int)),.int .i64 0]) rfl rfl (ev rfl rfl) ?_)
 refine rl rfl rfl (oextract (vs:=[.int .u32 (((zd % (x:Int)).toNat:Int)),.int .i64 0]) (v:=.int .u32 (((zd % (x:Int)).toNat:Int))) rfl rfl (ev rfl rfl) rfl ?_)
 refine rl rfl rfl (oextract (vs:=[.int .u32 (((zd % (x:Int)).toNat:Int)),.int .i64 0]) (v:=.int .i64 0) rfl rfl (ev rfl rfl) rfl ?_)
 refine rl rfl rfl (oassign (v:=.int .u32 (((zd % (x:Int)).toNat:Int))) rfl rfl (ev rfl rfl) ?_)
 refine rl rfl rfl (oassign (v:=.int .i64 0) rfl rfl (ev rfl rfl) ?_)
 refine rnil (thenN (rseq (rreg ?_)))
 refine rl rfl rfl (omove (v:=.int .u32 (((zd % (x:Int)).toNat:Int))) rfl rfl (ev rfl rfl) ?_)
 refine rl rfl rfl (obin (u:=.int .u32 (((zd % (x:Int)).toNat:Int))) (v:=.int .u32 0) (z:=.bool false) rfl rfl (ev rfl rfl) evc (bin_eql (eqF (by have h9:=Int.emod_nonneg zd (b:=(x:Int)) (by omega); omega))) ?_)
 refine rnil (thenN ?_)
 refine rF (ev rfl rfl) ?_
 refine rskip (thenN (rseq (rseq (rreg ?_))))
 refine rl rfl rfl (oload1 (v:=.slice po xs.length co) (show One Tryd.prog 25 from ⟨Tryd.isAgg25,Tryd.sizeOf25⟩) hS 0 rfl rfl (ev rfl rfl) rfl rfl ?_)
 refine rl rfl rfl (olen rfl rfl rfl Tryd.runUnderlying25 (p:=po) (k:=xs.length) (m:=co) (ev rfl rfl) ?_)
 refine rl rfl rfl (obin (u:=.int .i64 (xs.length:Int)) (v:=.int .i64 10000) (z:=.bool false) rfl rfl (ev rfl rfl) evc (bin_eql (eqF (by omega))) ?_)
 refine rnil (thenN ?_)
 refine rF (ev rfl rfl) ?_
 refine rskip (thenN (rseq (rreg ?_)))
 refine rl rfl rfl (oload1 (v:=.slice po xs.length co) (show One Tryd.prog 25 from ⟨Tryd.isAgg25,Tryd.sizeOf25⟩) hS 0 rfl rfl (ev rfl rfl) rfl rfl ?_)
 refine rl rfl rfl (omove (v:=.int .u32 (x:Int)) rfl rfl (ev rfl rfl) ?_)
 refine rl rfl rfl (obslice (ps:=#[(0,.int .u32 (x:Int))]) (z:=.int .u32 0) [.int .u32 (x:Int)] hS rfl rfl Tryd.runUnderlying25 Tryd.sizeOf34 Tryd.zeroValue34 (parts1 (ev (v:=.int .u32 (x:Int)) rfl rfl)) rfl (by decide) (fill1_1s rfl rfl) ?_)
 clear hS; intro g3 w4 hS
 obtain hS:=(show Sep w0 (.rowm po xs.length co xs :: .blk g3 [.int .u32 (((x:Nat):Int))] 34 :: .blk gO [.slice po xs.length co] 25 :: .blk gZ [.bool (ng ((F:Nat):Int)),.slice pz nz cz] 28 :: .row pz nz cz (lim (((F:Nat):Int)).natAbs) :: .blk gD [.bool bd,.slice pd nd_ cd] 28 :: .blk gT [.bool (ng ((t:Nat):Int)),.slice pt nt ct] 28 :: .row pt nt ct (lim (((t:Nat):Int)).natAbs) :: T) w4 from Sep.pickT [.blk g3 [.int .u32 (((x:Nat):Int))] 34,.blk gO [.slice po xs.length co] 25,.blk gZ [.bool (ng ((F:Nat):Int)),.slice pz nz cz] 28,.rowm po xs.length co xs,.row pz nz cz (lim (((F:Nat):Int)).natAbs),.blk gD [.bool bd,.slice pd nd_ cd] 28,.blk gT [.bool (ng ((t:Nat):Int)),.slice pt nt ct] 28,.row pt nt ct (lim (((t:Nat):Int)).natAbs)] [.rowm po xs.length co xs,.blk g3 [.int .u32 (((x:Nat):Int))] 34,.blk gO [.slice po xs.length co] 25,.blk gZ [.bool (ng ((F:Nat):Int)),.slice pz nz cz] 28,.row pz nz cz (lim (((F:Nat):Int)).natAbs),.blk gD [.bool bd,.slice pd nd_ cd] 28,.blk gT [.bool (ng ((t:Nat):Int)),.slice pt nt ct] 28,.row pt nt ct (lim (((t:Nat):Int)).natAbs)] hS [3,0,1,2,4,5,6,7] (by decide) rfl)
 refine rl rfl rfl (oappendR (p:=po) (m:=xs.length) (c:=co) (xs:=xs) (k:=1) (c2:=1) (a:=(some ⟨g3,0,none⟩)) (ys:=([x])) hS rfl rfl Tryd.underlying25 infouint32 (ev (v:=.slice po xs.length co) rfl rfl) (ev (v:=.slice (some ⟨g3,0,none⟩) 1 1) rfl rfl) (Sl.blk1 (hS.blkAt 1 rfl) (by omega)) (by omega) (by omega) ?_)
 clear hS; intro p6 c7 w5 hS
 refine rl rfl rfl (ostore [.slice p6 ((xs.length + 1)) c7] [.slice p6 ((xs.length + 1)) c7] Tryd.sizeOf25 hS 2 rfl rfl (ev rfl rfl) (ev (v:=.slice p6 ((xs.length + 1)) c7) rfl rfl) rfl rfl rfl rfl rfl rfl ?_)
 clear hS; intro w8 hS
 refine rnil (thenN ?_)
 have hk2:Wd (((x:Nat):Int)) 2:=Wd.i64 (by omega) (by omega)
 obtain ⟨z3,hz3⟩:∃ z:Int,Hid ((((F:Nat):Int)) * (((x:Nat):Int)) = z):=⟨_,rfl⟩
 have hk3:Wd z3 202:=Wd.mul hkz hk2 hz3 (by omega)
 refine rstage 5 [46,47,48,49,50] [[],[],[1],[2,1],[0,3,1,2]] [[],[],[],[],[]] [] [] (fun i9 => ([fun _ => Is (.agg #[.bool (ng (F:Int)),.slice pz nz cz]),fun _ => Is (.int .u32 (x:Int)),fun _ => Is (.int .i64 (x:Int)),fun _ => Zt (x:Int),fun _ => Zt z3]:List (List Value → Tell)).getD i9 (fun _ _ _ => False)) (heldNil) (fun d _ _ _ _ h => (by cases d <;> exact h)) (fun _ _ h => h) (by rfl) (by kernel_rfl) (by kernel_rfl) (by kernel_rfl) hS ?_ ?_
 ·
  refine stepsCons rfl (fun Q f' w' ρ S ho hT hS hB => ?_) ?_
  ·exact .inl ⟨want_none rfl,oload (vs:=[.bool (ng (F:Int)),.slice pz nz cz]) aggZ hS 3 rfl rfl (ev rfl (ho 8 rfl)) rfl rfl rfl ⟨_,_,rfl,isI,New.same _⟩⟩
  refine stepsCons rfl (fun Q f' w' ρ S ho hT hS hB => ?_) ?_
  ·exact .inl ⟨want_none rfl,omove (v:=.int .u32 (x:Int)) rfl rfl (ev rfl (ho 9 rfl)) ⟨_,_,rfl,isI,New.same _⟩⟩
  refine stepsCons rfl (fun Q f' w' ρ S ho hT hS hB => ?_) ?_
  ·obtain ⟨hv1,hr1⟩:=(hT 1 47 rfl rfl:(Is (.int .u32 (((x:Nat):Int)))) _ _)
   obtain hS:=(hS.flat1 hr1).front1
   exact .inl ⟨want_none rfl,oconvert (u:=.int .u32 (x:Int)) (v:=.int .i64 (x:Int)) rfl rfl (ev rfl hv1) (convert_int Tryd.runUnderlying34 Tryd.runUnderlying2 (wrap_i64 (by omega) (by omega))) ⟨_,_,rfl,isI,New.same _⟩⟩
  refine stepsCons rfl (fun Q f' w' ρ S ho hT hS hB => ?_) ?_
  ·obtain ⟨hv2,hr2⟩:=(hT 2 48 rfl rfl:(Is (.int .i64 (((x:Nat):Int)))) _ _)
   obtain hS:=(hS.flat1 hr2).front1
   exact .inl ⟨want_none rfl,ocall rfl rfl Tryd.call40 rfl (wzof (z:=(x:Int)) (by omega) (by omega)) (args1 (ev rfl hv2)) callN⟩
  refine stepsCons rfl (fun Q f' w' ρ S ho hT hS hB => ?_) ?_
  ·obtain ⟨hv0,hr0⟩:=(hT 0 46 rfl rfl:(Is (.agg #[.bool (ng ((F:Nat):Int)),.slice pz nz cz])) _ _)
   obtain ⟨p2,n2,c2,hv3,hr3⟩:=(hT 3 49 rfl rfl:(Zt (((x:Nat):Int))) _ _)
   obtain hS:=(hS.flat2 hr0 hr3).front2
   exact .inl ⟨want_none rfl,ocall rfl rfl Tryd.call44 rfl (wzmul (((hS.sl 5 rfl).zr hkz).mono (by omega)) (((hS.sl 0 rfl).zr hk2).mono (by omega)) hz3) (args2 (ev rfl hv0) (ev rfl hv3)) callN⟩
  exact stepsNil
 ·
  intro vs ρ w9 f' hf hT hS
  obtain ⟨hv0,hr0⟩:=(hT 0 (by decide):(Is (.agg #[.bool (ng ((F:Nat):Int)),.slice pz nz cz])) _ _)
  obtain ⟨hv1,hr1⟩:=(hT 1 (by decide):(Is (.int .u32 (((x:Nat):Int)))) _ _)
  obtain ⟨hv2,hr2⟩:=(hT 2 (by decide):(Is (.int .i64 (((x:Nat):Int)))) _ _)
  obtain ⟨p2,n2,c2,hv3,hr3⟩:=(hT 3 (by decide):(Zt (((x:Nat):Int))) _ _)
  obtain ⟨p3,n3,c3,hv4,hr4⟩:=(hT 4 (by decide):(Zt z3) _ _)
  simp only [pool,if_true,hr0,hr1,hr2,hr3,hr4,List.nil_append,List.cons_append,List.append_nil] at hS
  simp only [layf,hv0,hv1,hv2,hv3,hv4] at hf
  subst hf; clear hT hv0 hv1 hv2 hv3 hv4 hr0 hr1 hr2 hr3 hr4
  refine wlate 5 rfl (by kernel_rfl) (ostore [.bool (ng z3),.slice p3 n3 c3] [.bool (ng z3),.slice p3 n3 c3] Tryd.sizeOf28 hS 5 rfl rfl (ev rfl rfl) (ev (v:=.agg #[.bool (ng z3),.slice p3 n3 c3]) rfl rfl) rfl rfl rfl rfl rfl rfl ?_)
  clear hS; intro w10 hS
  refine ⟨heldNil,?_⟩
  refine wdone rfl ?_
  refine blkN ?_
  obtain rfl:(((F * x:Nat)):Int) = z3:=by rw [Int.natCast_mul]; exact hz3.out
  obtain hS:=(show Sep w0 (.blk gO [.slice p6 ((xs.length + 1)) c7] 25 :: .blk gZ [.bool (ng ((F * x:Nat):Int)),.slice p3 n3 c3] 28 :: .rowm p6 (xs.length + 1) c7 (xs ++ ([x])) :: .row p3 n3 c3 (lim (((F * x:Nat):Int)).natAbs) :: .blk gD [.bool bd,.slice pd nd_ cd] 28 :: .blk gT [.bool (ng ((t:Nat):Int)),.slice pt nt ct] 28 :: .row pt nt ct (lim (((t:Nat):Int)).natAbs) :: .row p2 n2 c2 (lim (((x:Nat):Int)).natAbs) :: .blk g3 [.int .u32 (((x:Nat):Int))] 34 :: .row pz nz cz (lim (((F:Nat):Int)).natAbs) :: T) w10 from Sep.pickT [.row p3 n3 c3 (lim (((F * x:Nat):Int)).natAbs),.row p2 n2 c2 (lim (((x:Nat):Int)).natAbs),.rowm p6 (xs.length + 1) c7 (xs ++ ([x])),.blk g3 [.int .u32 (((x:Nat):Int))] 34,.blk gO [.slice p6 ((xs.length + 1)) c7] 25,.blk gZ [.bool (ng ((F * x:Nat):Int)),.slice p3 n3 c3] 28,.row pz nz cz (lim (((F:Nat):Int)).natAbs),.blk gD [.bool bd,.slice pd nd_ cd] 28,.blk gT [.bool (ng ((t:Nat):Int)),.slice pt nt ct] 28,.row pt nt ct (lim (((t:Nat):Int)).natAbs)] [.blk gO [.slice p6 ((xs.length + 1)) c7] 25,.blk gZ [.bool (ng ((F * x:Nat):Int)),.slice p3 n3 c3] 28,.rowm p6 (xs.length + 1) c7 (xs ++ ([x])),.row p3 n3 c3 (lim (((F * x:Nat):Int)).natAbs),.blk gD [.bool bd,.slice pd nd_ cd] 28,.blk gT [.bool (ng ((t:Nat):Int)),.slice pt nt ct] 28,.row pt nt ct (lim (((t:Nat):Int)).natAbs),.row p2 n2 c2 (lim (((x:Nat):Int)).natAbs),.blk g3 [.int .u32 (((x:Nat):Int))] 34,.row pz nz cz (lim (((F:Nat):Int)).natAbs)] hS [4,5,2,0,7,8,9,1,3,6] (by decide) rfl)
  obtain hS:=(show Sep w0 (.blk gO [.slice p6 ((xs.length + 1)) c7] 25 :: .blk gZ [.bool (ng ((F * x:Nat):Int)),.slice p3 n3 c3] 28 :: .rowm p6 (xs.length + 1) c7 (xs ++ ([x])) :: .row p3 n3 c3 (lim (((F * x:Nat):Int)).natAbs) :: .blk gD [.bool bd,.slice pd nd_ cd] 28 :: .blk gT [.bool (ng ((t:Nat):Int)),.slice pt nt ct] 28 :: .row pt nt ct (lim (((t:Nat):Int)).natAbs) :: T) w10 from Sep.pickT [.blk gO [.slice p6 ((xs.length + 1)) c7] 25,.blk gZ [.bool (ng ((F * x:Nat):Int)),.slice p3 n3 c3] 28,.rowm p6 (xs.length + 1) c7 (xs ++ ([x])),.row p3 n3 c3 (lim (((F * x:Nat):Int)).natAbs),.blk gD [.bool bd,.slice pd nd_ cd] 28,.blk gT [.bool (ng ((t:Nat):Int)),.slice pt nt ct] 28,.row pt nt ct (lim (((t:Nat):Int)).natAbs),.row p2 n2 c2 (lim (((x:Nat):Int)).natAbs),.blk g3 [.int .u32 (((x:Nat):Int))] 34,.row pz nz cz (lim (((F:Nat):Int)).natAbs)] [.blk gO [.slice p6 ((xs.length + 1)) c7] 25,.blk gZ [.bool (ng ((F * x:Nat):Int)),.slice p3 n3 c3] 28,.rowm p6 (xs.length + 1) c7 (xs ++ ([x])),.row p3 n3 c3 (lim (((F * x:Nat):Int)).natAbs),.blk gD [.bool bd,.slice pd nd_ cd] 28,.blk gT [.bool (ng ((t:Nat):Int)),.slice pt nt ct] 28,.row pt nt ct (lim (((t:Nat):Int)).natAbs)] hS [0,1,2,3,4,5,6] (by decide) rfl)
  subst hT
  refine ⟨_,hI p6 c7 p3 n3 c3,DV.back (F:=F * x) (xs:=xs ++ [x]) ?_⟩
  rw [List.length_append]
  exact hS
theorem pick_rest {k0_ k1_ k2_ k3_ k4_ k5_ k6_ k7_ cB:Code} (hc:(Tryd.f12).body = some (.seq k7_ (.seq k6_ (.seq k5_ (.seq k4_ (.seq k3_ (.seq k2_ (.seq k1_ (.seq k0_ cB))))))))) {fb:Nat → Value} {gO gA gE D co:Nat} {po:Option Addr} {xs:List Nat} (hf:AllAt fb [(4,.pointer (some ⟨gA,0,none⟩)),(5,.pointer (some ⟨gE,0,none⟩)),(7,.pointer (some ⟨gO,0,none⟩))]) {w0 w:World} (hS:Sep w0 [.obj D (.deferred (some [])),.blk gO [.slice po xs.length co] 25,.rowm po xs.length co xs,.blk gA [.slice none 0 0] 25,.blk gE [.int .i64 0] 23] w) :
  CW Tryd.prog cB (postM Tryd.prog Tryd.f12 (Ret (RwE xs 0) w0)) (marked D (act 52 fb)) w:=by
 obtain rfl:=(Code.seq.inj (Code.seq.inj (Code.seq.inj (Code.seq.inj (Code.seq.inj (Code.seq.inj (Code.seq.inj (Code.seq.inj (Option.some.inj hc)).2).2).2).2).2).2).2).2
 clear hc
 rw [mact_sets hf]
 refine wseq ?_
 refine mreg ?_
 refine ml rfl (oload1 (v:=.slice po xs.length co) (show One Tryd.prog 25 from ⟨Tryd.isAgg25,Tryd.sizeOf25⟩) hS 1 rfl rfl (ev rfl rfl) rfl rfl ?_)
 refine ml rfl (ostore [.slice po xs.length co] [.slice po xs.length co] Tryd.sizeOf25 hS 3 rfl rfl (ev rfl rfl) (ev (v:=.slice po xs.length co) rfl rfl) rfl rfl rfl rfl rfl rfl ?_)
 clear hS; intro w1 hS
 refine ml rfl (ostore [.int .i64 0] [.int .i64 0] Tryd.sizeOf23 hS 4 rfl rfl (ev rfl rfl) (evc (v:=.int .i64 0)) rfl rfl rfl rfl rfl rfl ?_)
 clear hS; intro w2 hS
 refine mnil ?_
 refine thenN ?_
 refine wleave ?_
 refine mret2 Tryd.results12 hS (fun w9 hS => ⟨(tellC1 (v:=.slice po xs.length co) (show One Tryd.prog 25 from ⟨Tryd.isAgg25,Tryd.sizeOf25⟩) hS 2 rfl rfl rfl),(tellC1 (v:=.int .i64 0) (show One Tryd.prog 23 from ⟨Tryd.isAgg23,Tryd.sizeOf23⟩) hS 3 rfl rfl rfl)⟩) (fun w9 hS => ?_)
 exact ⟨_,_,rfl,⟨_,_,rfl,rfl⟩,hS.newR 1 rfl rfl⟩
theorem chF_ll {zd:Int} {t k j:Nat} (hk:ChK zd t k) (htt:t < 2 ^ E41) (hj:j ≤ k):ll (chF zd j) ≤ 200:=by
 have ht:ll t ≤ 190:=ll_pow htt (by unfold E41; omega)
 by_cases e:j < k
 ·exact Nat.le_trans (ll_mono (hk.low j e)) (by omega)
 ·obtain rfl:j = k:=by omega
  cases j with
  | zero => exact Nat.le_trans (ll_le (k:=1) (by unfold chF; rw [List.take_zero]; show (1:Nat) < _; decide)) (by omega)
  | succ i =>
   have h1:ll (chF zd i) ≤ 190:=Nat.le_trans (ll_mono (hk.low i (by omega))) ht
   have hi:i < PP.length:=hk.le
   have h2:ll PP[i] ≤ 1:=Nd.u32 (by have:=PP_lt (List.getElem_mem hi); omega)
   have h3:ll (chF zd i * PP[i]) ≤ 200:=Nd.mul h1 h2 rfl (by omega)
   unfold chF at h1 h3 ⊢
   rw [sel_next (List.getElem?_eq_getElem hi)]
   split
   ·omega
   ·rw [pdn_snoc]; exact h3
theorem wbchoose {bd b2:Bool} {pd pb:Option Addr} {nd_ cd nb cb t k:Nat} {zd zb:Int} {w:World} (hd:Zr w bd pd nd_ cd zd 1048580) (hb:Zr w b2 pb nb cb zb 1048580) (ht:Tb w) (h0:zd ≠ 0) (hb0:0 ≤ zb) (hbt:zb + zb = ((t:Nat):Int)) (htt:t < 2 ^ E41) (hk:ChK zd t k) :
  Calls Tryd.prog 12 #[.agg #[.bool bd,.slice pd nd_ cd],.agg #[.bool b2,.slice pb nb cb]] w (Ret (RwE (sel zd (PP.take k)) 0) w):=by
 have hkW:∀ n,n ≤ k → ∀ {pre:List Nat},pre = PP.take n → Wd ((pdn (sel zd pre):Nat):Int) 200:=fun n hn pre hp => by rw [hp]; exact Wd.ofN (chF_ll hk htt hn)
 have hbl:blen t ≤ E41:=blen_le htt
 have hS:=Sep.init w
 refine wentM Tryd.func12 rfl (n:=52) rfl rfl ?_
 refine wseq (wreg (wl rfl (obox [.bool bd,.slice pd nd_ cd] hS rfl rfl (ev (v:=.agg #[.bool bd,.slice pd nd_ cd]) rfl rfl) rfl ?_)))
 clear hS; intro g1 w2 hS
 refine wl rfl (obox [.bool b2,.slice pb nb cb] hS rfl rfl (ev (v:=.agg #[.bool b2,.slice pb nb cb]) rfl rfl) rfl ?_)
 clear hS; intro g3 w4 hS
 refine wl rfl (oalloc [.slice none 0 0] hS rfl rfl Tryd.zeroValue25 rfl ?_)
 clear hS; intro g5 w6 hS
 refine wl rfl (oalloc [.int .i64 0] hS rfl rfl Tryd.zeroValue23 rfl ?_)
 clear hS; intro g7 w8 hS
 refine wnil (thenN (wseq (wseq (wreg (wl rfl (oload (vs:=[.bool bd,.slice pd nd_ cd]) aggZ hS 3 rfl rfl (ev rfl rfl) rfl rfl rfl ?_))))))
 obtain ⟨s1,hs1⟩:∃ z:Int,Hid ((zd:Int).sign = z):=⟨_,rfl⟩
 refine wl rfl (ocall rfl rfl Tryd.call37 rfl (wzsign ((hd.at hS).mono (by omega)) hs1) (args1 (ev rfl rfl)) ?_)
 rintro _ w9 ⟨_,_,rfl,⟨rfl,rfl⟩,hN⟩
 refine ⟨_,rfl,?_⟩
 replace hS:=hS.news hN; clear hN
 refine wl rfl (obin (u:=.int .i64 s1) (v:=.int .i64 0) (z:=.bool false) rfl rfl (ev rfl rfl) evc (bin_eql (eqF (fun h => by have h9:=sign_neT hs1 h0; rw [h] at h9; exact absurd h9 (by decide)))) ?_)
 refine wnil (thenN ?_)
 refine wF (ev rfl rfl) ?_
 refine wskip (thenN (wseq (wseq (wreg (wl rfl (oload (vs:=[.bool b2,.slice pb nb cb]) aggZ hS 2 rfl rfl (ev rfl rfl) rfl rfl rfl ?_))))))
 obtain ⟨s2,hs2⟩:∃ z:Int,Hid ((zb:Int).sign = z):=⟨_,rfl⟩
 refine wl rfl (ocall rfl rfl Tryd.call37 rfl (wzsign ((hb.at hS).mono (by omega)) hs2) (args1 (ev rfl rfl)) ?_)
 rintro _ w10 ⟨_,_,rfl,⟨rfl,rfl⟩,hN⟩
 refine ⟨_,rfl,?_⟩
 replace hS:=hS.news hN; clear hN
 refine wl rfl (obin (u:=.int .i64 s2) (v:=.int .i64 0) (z:=.bool false) rfl rfl (ev rfl rfl) evc (bin_lss (decide_eq_false (fun h => by have h9:=(sign_neg hs2).1 h; omega))) ?_)
 refine wnil (thenN ?_)
 refine wF (ev rfl rfl) ?_
 refine wskip (thenN (wseq (wreg (wl rfl (oload (vs:=[.bool b2,.slice pb nb cb]) aggZ hS 2 rfl rfl (ev rfl rfl) rfl rfl rfl ?_)))))
 refine wl rfl (oload (vs:=[.bool b2,.slice pb nb cb]) aggZ hS 2 rfl rfl (ev rfl rfl) rfl rfl rfl ?_)
 obtain ⟨z3,hz3⟩:∃ z:Int,Hid (zb + zb = z):=⟨_,rfl⟩
 have hk3:Wd z3 1048581:=Wd.add hb.wd hb.wd hz3 (by omega)
 refine wl rfl (ocall rfl rfl Tryd.call38 rfl (wzadd ((hb.at hS).mono (by omega)) ((hb.at hS).mono (by omega)) hz3) (args2 (ev rfl rfl) (ev rfl rfl)) ?_)
 rintro _ w11 ⟨_,_,rfl,⟨p3,n3,c3,rfl,rfl⟩,hN⟩
 refine ⟨_,rfl,?_⟩
 replace hS:=hS.news hN; clear hN
 refine wl rfl (oalloc [.bool false,.slice none 0 0] hS rfl rfl Tryd.zeroValue28 rfl ?_)
 clear hS; intro g12 w13 hS
 refine wl rfl (ostore [.bool (ng z3),.slice p3 n3 c3] [.bool (ng z3),.slice p3 n3 c3] Tryd.sizeOf28 hS 0 rfl rfl (ev rfl rfl) (ev (v:=.agg #[.bool (ng z3),.slice p3 n3 c3]) rfl rfl) rfl rfl rfl rfl rfl rfl ?_)
 clear hS; intro w14 hS
 refine wnil (thenN (wseq (wseq (wreg (wl rfl (ofieldAddr (g:=g12) (off:=0) 1 rfl rfl (ev rfl rfl) Tryd.runUnderlying28 rfl Tryd.sizeOf26 rfl ?_))))))
 refine wl rfl (oload1 (v:=.slice p3 n3 c3) oneN hS 0 rfl rfl (ev rfl rfl) rfl rfl ?_)
 refine wl rfl (ocall rfl rfl Tryd.call39 rfl (wnlen (hS.sl 1 rfl) (hk3.mono (by omega))) (args1 (ev rfl rfl)) ?_)
 rintro _ w15 ⟨_,_,rfl,⟨rfl,rfl⟩,hN⟩
 refine ⟨_,rfl,?_⟩
 replace hS:=hS.news hN; clear hN
 refine wl rfl (obin (u:=.int .i64 (((blen (z3).natAbs:Nat):Int))) (v:=.int .i64 320000) (z:=.bool false) rfl rfl (ev rfl rfl) evc (bin_gtr (decide_eq_false (by rw [← hz3.out,hbt]; unfold E41 at hbl; show ¬ ((blen t:Nat):Int) > 320000; omega))) ?_)
 refine wnil (thenN ?_)
 refine wF (ev rfl rfl) ?_
 refine wskip (thenN (wseq (wreg (wl rfl (oalloc [.slice none 0 0] hS rfl rfl Tryd.zeroValue25 rfl ?_)))))
 clear hS; intro g16 w17 hS
 refine wnil (thenN (wseq (wreg ?_)))
 have hk4:Wd 1 2:=Wd.i64 (by omega) (by omega)
 refine wl rfl (ocall rfl rfl Tryd.call40 rfl (wzof (z:=1) (by omega) (by omega)) (args1 evc) ?_)
 rintro _ w18 ⟨_,_,rfl,⟨p4,n4,c4,rfl,rfl⟩,hN⟩
 refine ⟨_,rfl,?_⟩
 replace hS:=hS.news hN; clear hN
 refine wl rfl (oalloc [.bool false,.slice none 0 0] hS rfl rfl Tryd.zeroValue28 rfl ?_)
 clear hS; intro g19 w20 hS
 refine wl rfl (ostore [.bool (ng 1),.slice p4 n4 c4] [.bool (ng 1),.slice p4 n4 c4] Tryd.sizeOf28 hS 0 rfl rfl (ev rfl rfl) (ev (v:=.agg #[.bool (ng 1),.slice p4 n4 c4]) rfl rfl) rfl rfl rfl rfl rfl rfl ?_)
 clear hS; intro w21 hS
 refine wnil (thenN (wseq (wblock ?_)))
 replace hS:=hS.nilRowm
 obtain hS:=(show Sep w [.blk g16 [.slice none 0 0] 25,.blk g19 [.bool (ng 1),.slice p4 n4 c4] 28,.rowm none 0 0 ([]),.row p4 n4 c4 (lim (1:Int).natAbs),.blk g1 [.bool bd,.slice pd nd_ cd] 28,.blk g12 [.bool (ng z3),.slice p3 n3 c3] 28,.row p3 n3 c3 (lim z3.natAbs),.blk g5 [.slice none 0 0] 25,.blk g7 [.int .i64 0] 23,.blk g3 [.bool b2,.slice pb nb cb] 28] w21 from hS.pick [3,1,0,2,9,4,5,7,6,8] (by decide) rfl)
 obtain hS:=hS.sub (List.take_sublist 9 _)
 obtain rfl:(t:Int) = z3:=by rw [← hbt]; exact hz3.out
 obtain hS:=(show Sep w ([] ++ DV g16 g19 g1 g12 bd pd nd_ cd n3 c3 p3 none 0 p4 n4 c4 1 t [] [.blk g5 [.slice none 0 0] 25,.blk g7 [.int .i64 0] 23]) w21 from hS)
 have hkt:Wd ((t:Nat):Int) 200:=Wd.ofN (ll_pow htt (by unfold E41; omega))
 refine wrange (T:=fun (q:Nat) => Is (.int .u32 (q:Int))) (xs:=prs 4294967295) (R:=[]) rfl Tryd.call41 (falling_iter ht) hS (DI g16 g19 g1 g12 bd pd nd_ cd n3 c3 p3 zd t k [.blk g5 [.slice none 0 0] 25,.blk g7 [.int .i64 0] 23]) (DX g16 g19 g1 g12 bd pd nd_ cd n3 c3 p3 zd t k [.blk g5 [.slice none 0 0] 25,.blk g7 [.int .i64 0] 23]) ⟨_,_,_,_,_,Nat.zero_le _,rfl⟩ (DA g16 g19 g1 g12 bd pd nd_ cd n3 c3 p3 zd t k [.blk g5 [.slice none 0 0] 25,.blk g7 [.int .i64 0] 23]) ?_ ?_ ?_ ?_
 ·intro l m pre q v9 r9 Rf Rc W hpx hI hT hS
  obtain ⟨rfl,rfl⟩:=hT
  refine rreg ?_
  refine rl rfl rfl (oassign (v:=.int .u32 (q:Int)) rfl rfl (ev rfl rfl) ?_)
  refine rnil (thenN ?_)
  exact ⟨_,_,rfl,⟨_,rfl,rfl,rfl,rfl,rfl,hI⟩,hS⟩
 ·intro l m pre q f9 Rf R9 W hpx hA hS
  obtain ⟨fa,rfl,hfa2,hfa6,hfa7,hfa8,po,co,pz,nz,cz,hpl,rfl⟩:=hA
  obtain ⟨hp1,hp2⟩:=take_pre (show pre ++ [q] <+: PP from hpx)
  have hq:q ∈ PP:=List.mem_of_getElem? hp2
  have hq2:=PP_lt hq
  have hq0:=(PP_pr hq).1
  by_cases he:pre.length = k
  ·have e1:sel zd pre = sel zd (PP.take k):=by rw [← he, ← hp1]
   have hF:=hk.top
   unfold chF at hF
   have hkF:Wd ((pdn (sel zd pre):Nat):Int) 200:=hkW pre.length hpl hp1
   rw [e1] at hS hkF
   exact pick_rA rfl ⟨hfa2,hfa6,hfa7,hfa8,rfl,trivial⟩ hd hkF hkt (by omega) hq2 hF (fun po co pz nz cz => ⟨rfl,po,co,pz,nz,cz,rfl⟩) rfl (DV.mid hS)
  ·have hlt:pre.length < k:=by omega
   have hF:=hk.low _ hlt
   unfold chF at hF
   rw [← hp1] at hF
   have hkF:Wd ((pdn (sel zd pre):Nat):Int) 200:=hkW pre.length hpl hp1
   have hl:=ch_small hk htt hlt
   rw [← hp1] at hl
   by_cases hm:zd % ((q:Nat):Int) = 0
   ·exact pick_rB rfl ⟨hfa2,hfa6,hfa7,hfa8,rfl,trivial⟩ hd hkF hkt (by omega) hq2 hF hm (fun po co pz nz cz => ⟨po,co,pz,nz,cz,by rw [List.length_append]; exact hlt,by rw [sel_skip hm]⟩) rfl (DV.mid hS)
   ·exact pick_rC rfl ⟨hfa2,hfa6,hfa7,hfa8,rfl,trivial⟩ hd hkF hkt (by omega) hq2 hF hm hl (fun po co pz nz cz => ⟨po,co,pz,nz,cz,by rw [List.length_append]; exact hlt,by rw [sel_take hm,pdn_snoc]⟩) rfl (DV.mid hS)
 ·rintro D Rc W ⟨po,co,pz,nz,cz,hpl,rfl⟩ hS
  have hkl:=hk.le
  have e1:sel zd (prs 4294967295) = sel zd (PP.take k):=by rw [List.take_of_length_le (show PP.length ≤ k from hpl)]; rfl
  rw [e1] at hS
  refine blkN (thenN ?_)
  refine pick_rest rfl ?_ (DV.rest hS)
  exact ⟨rfl,rfl,rfl,trivial⟩
 ·rintro D c pre Rc W hpre ⟨rfl,po,co,pz,nz,cz,rfl⟩ hS
  refine (wexit ?_).out
  refine blkE ?_
  refine thenN ?_
  refine pick_rest rfl ?_ (DV.rest hS)
  exact ⟨rfl,rfl,rfl,trivial⟩
end Go.Proofs.YthnilcgmljecdaaDoor
/-
  Choose's errors; the document's Choose.
-/
namespace Go.Proofs.YthnilcgmljecdaaDoor
open Go.RowKit
theorem prs_head {p q:Nat} {r:List Nat} (h:prs p = q :: r):MR.Pr q ∧ q < p ∧ (∀ x,q < x → x < p → ¬ MR.Pr x) ∧ r = prs q:=by
 rcases last_ex p with ⟨q',h1,h2,h3⟩ | hn
 ·rw [prs_cons h1 p h2 h3] at h
  obtain ⟨rfl,rfl⟩:=List.cons.inj h
  exact ⟨h1,h2,h3,rfl⟩
 ·rw [prs_nil p hn] at h; cases h
theorem chF_at {zd:Int} {j q:Nat} (hq:PP[j]? = some q):chF zd (j + 1) = if zd % (q:Int) = 0 then chF zd j else chF zd j * q:=by
  unfold chF
  rw [sel_next hq]
  split
  · rfl
  · rw [pdn_snoc]
theorem wbchoose5 {bd b2:Bool} {pd pb:Option Addr} {nd_ cd nb cb:Nat} {zd zb:Int} {w:World} (hd:Zr w bd pd nd_ cd zd 1048580) (hb:Zr w b2 pb nb cb zb 1048580) (h0:zd = 0) :
  Calls Tryd.prog 12 #[.agg #[.bool bd,.slice pd nd_ cd],.agg #[.bool b2,.slice pb nb cb]] w (Ret (Is (.tuple #[.slice none 0 0,.int .i64 5])) w):=by
 have hS:=Sep.init w
 refine went Tryd.func12 rfl (n:=52) rfl rfl ?_
 refine wseq (wreg (wl rfl (obox [.bool bd,.slice pd nd_ cd] hS rfl rfl (ev (v:=.agg #[.bool bd,.slice pd nd_ cd]) rfl rfl) rfl ?_)))
 clear hS; intro g1 w2 hS
 refine wl rfl (obox [.bool b2,.slice pb nb cb] hS rfl rfl (ev (v:=.agg #[.bool b2,.slice pb nb cb]) rfl rfl) rfl ?_)
 clear hS; intro g3 w4 hS
 refine wl rfl (oalloc [.slice none 0 0] hS rfl rfl Tryd.zeroValue25 rfl ?_)
 clear hS; intro g5 w6 hS
 refine wl rfl (oalloc [.int .i64 0] hS rfl rfl Tryd.zeroValue23 rfl ?_)
 clear hS; intro g7 w8 hS
 refine wnil (thenN (wseq (wseq (wreg (wl rfl (oload (vs:=[.bool bd,.slice pd nd_ cd]) aggZ hS 3 rfl rfl (ev rfl rfl) rfl rfl rfl ?_))))))
 obtain ⟨s1,hs1⟩:∃ z:Int,Hid ((zd:Int).sign = z):=⟨_,rfl⟩
 refine wl rfl (ocall rfl rfl Tryd.call37 rfl (wzsign ((hd.at hS).mono (by omega)) hs1) (args1 (ev rfl rfl)) ?_)
 rintro _ w9 ⟨_,_,rfl,⟨rfl,rfl⟩,hN⟩
 refine ⟨_,rfl,?_⟩
 replace hS:=hS.news hN; clear hN
 refine wl rfl (obin (u:=.int .i64 s1) (v:=.int .i64 0) (z:=.bool true) rfl rfl (ev rfl rfl) evc (bin_eql (eqT (by rw [← hs1.out,h0]; rfl))) ?_)
 refine wnil (thenN ?_)
 refine wT (ev rfl rfl) ?_
 refine wseq (wreg (wl rfl (ostore [.slice none 0 0] [.slice none 0 0] Tryd.sizeOf25 hS 1 rfl rfl (ev rfl rfl) (evc (v:=.slice none 0 0)) rfl rfl rfl rfl rfl rfl ?_)))
 clear hS; intro w10 hS
 refine wl rfl (ostore [.int .i64 5] [.int .i64 5] Tryd.sizeOf23 hS 0 rfl rfl (ev rfl rfl) (evc (v:=.int .i64 5)) rfl rfl rfl rfl rfl rfl ?_)
 clear hS; intro w11 hS
 refine wnil (thenN ?_)
 refine wleave ?_
 refine thenR ?_
 refine wret2 Tryd.results12 (tellC1 (v:=.slice none 0 0) (show One Tryd.prog 25 from ⟨Tryd.isAgg25,Tryd.sizeOf25⟩) hS 1 rfl rfl rfl) (tellC1 (v:=.int .i64 5) (show One Tryd.prog 23 from ⟨Tryd.isAgg23,Tryd.sizeOf23⟩) hS 0 rfl rfl rfl) ?_
 exact ⟨_,_,rfl,isI,hS.new0⟩
theorem wbchoose1 {bd b2:Bool} {pd pb:Option Addr} {nd_ cd nb cb:Nat} {zd zb:Int} {w:World} (hd:Zr w bd pd nd_ cd zd 1048580) (hb:Zr w b2 pb nb cb zb 1048580) (h0:zd ≠ 0) (h1:zb < 0) :
  Calls Tryd.prog 12 #[.agg #[.bool bd,.slice pd nd_ cd],.agg #[.bool b2,.slice pb nb cb]] w (Ret (Is (.tuple #[.slice none 0 0,.int .i64 1])) w):=by
 have hS:=Sep.init w
 refine went Tryd.func12 rfl (n:=52) rfl rfl ?_
 refine wseq (wreg (wl rfl (obox [.bool bd,.slice pd nd_ cd] hS rfl rfl (ev (v:=.agg #[.bool bd,.slice pd nd_ cd]) rfl rfl) rfl ?_)))
 clear hS; intro g1 w2 hS
 refine wl rfl (obox [.bool b2,.slice pb nb cb] hS rfl rfl (ev (v:=.agg #[.bool b2,.slice pb nb cb]) rfl rfl) rfl ?_)
 clear hS; intro g3 w4 hS
 refine wl rfl (oalloc [.slice none 0 0] hS rfl rfl Tryd.zeroValue25 rfl ?_)
 clear hS; intro g5 w6 hS
 refine wl rfl (oalloc [.int .i64 0] hS rfl rfl Tryd.zeroValue23 rfl ?_)
 clear hS; intro g7 w8 hS
 refine wnil (thenN (wseq (wseq (wreg (wl rfl (oload (vs:=[.bool bd,.slice pd nd_ cd]) aggZ hS 3 rfl rfl (ev rfl rfl) rfl rfl rfl ?_))))))
 obtain ⟨s1,hs1⟩:∃ z:Int,Hid ((zd:Int).sign = z):=⟨_,rfl⟩
 refine wl rfl (ocall rfl rfl Tryd.call37 rfl (wzsign ((hd.at hS).mono (by omega)) hs1) (args1 (ev rfl rfl)) ?_)
 rintro _ w9 ⟨_,_,rfl,⟨rfl,rfl⟩,hN⟩
 refine ⟨_,rfl,?_⟩
 replace hS:=hS.news hN; clear hN
 refine wl rfl (obin (u:=.int .i64 s1) (v:=.int .i64 0) (z:=.bool false) rfl rfl (ev rfl rfl) evc (bin_eql (eqF (fun h => by have h9:=sign_neT hs1 h0; rw [h] at h9; exact absurd h9 (by decide)))) ?_)
 refine wnil (thenN ?_)
 refine wF (ev rfl rfl) ?_
 refine wskip (thenN (wseq (wseq (wreg (wl rfl (oload (vs:=[.bool b2,.slice pb nb cb]) aggZ hS 2 rfl rfl (ev rfl rfl) rfl rfl rfl ?_))))))
 obtain ⟨s2,hs2⟩:∃ z:Int,Hid ((zb:Int).sign = z):=⟨_,rfl⟩
 refine wl rfl (ocall rfl rfl Tryd.call37 rfl (wzsign ((hb.at hS).mono (by omega)) hs2) (args1 (ev rfl rfl)) ?_)
 rintro _ w10 ⟨_,_,rfl,⟨rfl,rfl⟩,hN⟩
 refine ⟨_,rfl,?_⟩
 replace hS:=hS.news hN; clear hN
 refine wl rfl (obin (u:=.int .i64 s2) (v:=.int .i64 0) (z:=.bool true) rfl rfl (ev rfl rfl) evc (bin_lss (decide_eq_true ((sign_neg hs2).2 h1))) ?_)
 refine wnil (thenN ?_)
 refine wT (ev rfl rfl) ?_
 refine wseq (wreg (wl rfl (ostore [.slice none 0 0] [.slice none 0 0] Tryd.sizeOf25 hS 1 rfl rfl (ev rfl rfl) (evc (v:=.slice none 0 0)) rfl rfl rfl rfl rfl rfl ?_)))
 clear hS; intro w11 hS
 refine wl rfl (ostore [.int .i64 1] [.int .i64 1] Tryd.sizeOf23 hS 0 rfl rfl (ev rfl rfl) (evc (v:=.int .i64 1)) rfl rfl rfl rfl rfl rfl ?_)
 clear hS; intro w12 hS
 refine wnil (thenN ?_)
 refine wleave ?_
 refine thenR ?_
 refine wret2 Tryd.results12 (tellC1 (v:=.slice none 0 0) (show One Tryd.prog 25 from ⟨Tryd.isAgg25,Tryd.sizeOf25⟩) hS 1 rfl rfl rfl) (tellC1 (v:=.int .i64 1) (show One Tryd.prog 23 from ⟨Tryd.isAgg23,Tryd.sizeOf23⟩) hS 0 rfl rfl rfl) ?_
 exact ⟨_,_,rfl,isI,hS.new0⟩
theorem wqchoose5 {bd b2:Bool} {pd pb:Option Addr} {nd_ cd nb cb:Nat} {zd zb:Int} {w:World} (hd:Zr w bd pd nd_ cd zd 1048580) (hb:Zr w b2 pb nb cb zb 1048580) (h0:zd = 0) :
  Calls Tryd.prog 13 #[.agg #[.bool bd,.slice pd nd_ cd],.agg #[.bool b2,.slice pb nb cb]] w (Ret (Is (.tuple #[.slice none 0 0,.int .i64 5])) w):=by
 have hS:=Sep.init w
 refine went Tryd.func13 rfl (n:=48) rfl rfl ?_
 refine wseq (wreg (wl rfl (obox [.bool bd,.slice pd nd_ cd] hS rfl rfl (ev (v:=.agg #[.bool bd,.slice pd nd_ cd]) rfl rfl) rfl ?_)))
 clear hS; intro g1 w2 hS
 refine wl rfl (obox [.bool b2,.slice pb nb cb] hS rfl rfl (ev (v:=.agg #[.bool b2,.slice pb nb cb]) rfl rfl) rfl ?_)
 clear hS; intro g3 w4 hS
 refine wl rfl (oassign (v:=.slice none 0 0) rfl rfl evc ?_)
 refine wl rfl (oassign (v:=.int .i64 0) rfl rfl evc ?_)
 refine wnil (thenN (wseq (wseq (wreg (wl rfl (oload (vs:=[.bool bd,.slice pd nd_ cd]) aggZ hS 1 rfl rfl (ev rfl rfl) rfl rfl rfl ?_))))))
 obtain ⟨s1,hs1⟩:∃ z:Int,Hid ((zd:Int).sign = z):=⟨_,rfl⟩
 refine wl rfl (ocall rfl rfl Tryd.call45 rfl (wqsign ((hd.at hS).mono (by omega)) hs1) (args1 (ev rfl rfl)) ?_)
 rintro _ w5 ⟨_,_,rfl,⟨rfl,rfl⟩,hN⟩
 refine ⟨_,rfl,?_⟩
 replace hS:=hS.news hN; clear hN
 refine wl rfl (obin (u:=.int .i64 s1) (v:=.int .i64 0) (z:=.bool true) rfl rfl (ev rfl rfl) evc (bin_eql (eqT (by rw [← hs1.out,h0]; rfl))) ?_)
 refine wnil (thenN ?_)
 refine wT (ev rfl rfl) ?_
 refine wseq (wreg (wl rfl (oassign (v:=.slice none 0 0) rfl rfl evc ?_)))
 refine wl rfl (oassign (v:=.int .i64 5) rfl rfl evc ?_)
 refine wnil (thenN ?_)
 refine wleave ?_
 refine thenR ?_
 refine wret2 Tryd.results13 (tellT (v:=.slice none 0 0) rfl rfl) (tellT (v:=.int .i64 5) rfl rfl) ?_
 exact ⟨_,_,rfl,isI,hS.new0⟩
theorem wqchoose1 {bd b2:Bool} {pd pb:Option Addr} {nd_ cd nb cb:Nat} {zd zb:Int} {w:World} (hd:Zr w bd pd nd_ cd zd 1048580) (hb:Zr w b2 pb nb cb zb 1048580) (h0:zd ≠ 0) (h1:zb < 0) :
  Calls Tryd.prog 13 #[.agg #[.bool bd,.slice pd nd_ cd],.agg #[.bool b2,.slice pb nb cb]] w (Ret (Is (.tuple #[.slice none 0 0,.int .i64 1])) w):=by
 have hS:=Sep.init w
 refine went Tryd.func13 rfl (n:=48) rfl rfl ?_
 refine wseq (wreg (wl rfl (obox [.bool bd,.slice pd nd_ cd] hS rfl rfl (ev (v:=.agg #[.bool bd,.slice pd nd_ cd]) rfl rfl) rfl ?_)))
 clear hS; intro g1 w2 hS
 refine wl rfl (obox [.bool b2,.slice pb nb cb] hS rfl rfl (ev (v:=.agg #[.bool b2,.slice pb nb cb]) rfl rfl) rfl ?_)
 clear hS; intro g3 w4 hS
 refine wl rfl (oassign (v:=.slice none 0 0) rfl rfl evc ?_)
 refine wl rfl (oassign (v:=.int .i64 0) rfl rfl evc ?_)
 refine wnil (thenN (wseq (wseq (wreg (wl rfl (oload (vs:=[.bool bd,.slice pd nd_ cd]) aggZ hS 1 rfl rfl (ev rfl rfl) rfl rfl rfl ?_))))))
 obtain ⟨s1,hs1⟩:∃ z:Int,Hid ((zd:Int).sign = z):=⟨_,rfl⟩
 refine wl rfl (ocall rfl rfl Tryd.call45 rfl (wqsign ((hd.at hS).mono (by omega)) hs1) (args1 (ev rfl rfl)) ?_)
 rintro _ w5 ⟨_,_,rfl,⟨rfl,rfl⟩,hN⟩
 refine ⟨_,rfl,?_⟩
 replace hS:=hS.news hN; clear hN
 refine wl rfl (obin (u:=.int .i64 s1) (v:=.int .i64 0) (z:=.bool false) rfl rfl (ev rfl rfl) evc (bin_eql (eqF (fun h => by have h9:=sign_neT hs1 h0; rw [h] at h9; exact absurd h9 (by decide)))) ?_)
 refine wnil (thenN ?_)
 refine wF (ev rfl rfl) ?_
 refine wskip (thenN (wseq (wseq (wreg (wl rfl (oload (vs:=[.bool b2,.slice pb nb cb]) aggZ hS 0 rfl rfl (ev rfl rfl) rfl rfl rfl ?_))))))
 obtain ⟨s2,hs2⟩:∃ z:Int,Hid ((zb:Int).sign = z):=⟨_,rfl⟩
 refine wl rfl (ocall rfl rfl Tryd.call45 rfl (wqsign ((hb.at hS).mono (by omega)) hs2) (args1 (ev rfl rfl)) ?_)
 rintro _ w6 ⟨_,_,rfl,⟨rfl,rfl⟩,hN⟩
 refine ⟨_,rfl,?_⟩
 replace hS:=hS.news hN; clear hN
 refine wl rfl (obin (u:=.int .i64 s2) (v:=.int .i64 0) (z:=.bool true) rfl rfl (ev rfl rfl) evc (bin_lss (decide_eq_true ((sign_neg hs2).2 h1))) ?_)
 refine wnil (thenN ?_)
 refine wT (ev rfl rfl) ?_
 refine wseq (wreg (wl rfl (oassign (v:=.slice none 0 0) rfl rfl evc ?_)))
 refine wl rfl (oassign (v:=.int .i64 1) rfl rfl evc ?_)
 refine wnil (thenN ?_)
 refine wleave ?_
 refine thenR ?_
 refine wret2 Tryd.results13 (tellT (v:=.slice none 0 0) rfl rfl) (tellT (v:=.int .i64 1) rfl rfl) ?_
 exact ⟨_,_,rfl,isI,hS.new0⟩
theorem wqlast {n0 q:Nat} {w:World} (hn0:n0 < 4294967296) (hq:MR.Pr q) (hqn:q < n0) (hno:∀ r,q < r → r < n0 → ¬ MR.Pr r) :
  Calls Tryd.prog 49 #[.int .u32 ((n0:Nat):Int)] w (Ret (Is (.tuple #[.int .u32 ((q:Nat):Int),.bool true])) w):=by
 have hq2:=hq.1
 have hS:=Sep.init w
 refine went Tryd.func49 rfl (n:=11) rfl rfl ?_
 refine wseq (wreg (wl rfl (oassign (v:=.int .u32 0) rfl rfl evc ?_)))
 refine wl rfl (oassign (v:=.bool false) rfl rfl evc ?_)
 refine wnil (thenN (wseq (wblock ?_)))
 refine wloop (σ := Nat) (fun n a9 w' => ∃ (fb:Nat → Value),a9 = act 11 (sets fb [(0,.int .u32 (n:Int))]) ∧ Sep w [] w' ∧ (n ≤ n0) ∧ (q < n)) (fun n => n) (n0) ⟨_,act_sets (l:=[(0,.int .u32 (n0:Int))]) ⟨rfl,trivial⟩,hS,Nat.le_refl _,hqn⟩ ?_
 clear hS; rintro n _ w1 ⟨fb,rfl,hS,hn,hqn2⟩
 refine wseq (wseq (wreg (wl rfl (omove (v:=.int .u32 (n:Int)) rfl rfl (ev rfl rfl) ?_))))
 refine wl rfl (obin (u:=.int .u32 (n:Int)) (v:=.int .u32 0) (z:=.bool true) rfl rfl (ev rfl rfl) evc (bin_gtr (decide_eq_true (by omega))) ?_)
 refine wnil (thenN ?_)
 refine wT (ev rfl rfl) ?_
 refine wskip (thenN (wblock (wseq (wreg (wl rfl (omove (v:=.int .u32 (n:Int)) rfl rfl (ev rfl rfl) ?_))))))
 refine wl rfl (obin (u:=.int .u32 (n:Int)) (v:=.int .u32 1) (z:=.int .u32 (((n - 1:Nat):Int))) rfl rfl (ev rfl rfl) evc (bin_sub (by rw [show (n:Int) - 1 = ((n - 1:Nat):Int) by omega]; exact wrap_u32 (by omega) (by omega))) ?_)
 refine wl rfl (oassign (v:=.int .u32 (((n - 1:Nat):Int))) rfl rfl (ev rfl rfl) ?_)
 refine wnil (thenN (wseq (wreg (wl rfl (omove (v:=.int .u32 (((n - 1:Nat):Int))) rfl rfl (ev rfl rfl) ?_)))))
 by_cases he:n = q + 1
 ·
  refine wl rfl (ocall rfl rfl Tryd.call22 rfl (wsis (n:=n - 1) (b:=true) (by omega) ⟨fun _ => by rw [show n - 1 = q by omega]; exact hq,fun _ => rfl⟩) (args1 (ev rfl rfl)) ?_)
  rintro _ w2 ⟨_,_,rfl,⟨rfl,rfl⟩,hN⟩
  refine ⟨_,rfl,?_⟩
  replace hS:=hS.news hN; clear hN
  refine wnil (thenN ?_)
  refine wT (ev rfl rfl) ?_
  refine wseq (wreg (wl rfl (omove (v:=.int .u32 (((n - 1:Nat):Int))) rfl rfl (ev rfl rfl) ?_)))
  refine wl rfl (oassign (v:=.int .u32 (((n - 1:Nat):Int))) rfl rfl (ev rfl rfl) ?_)
  refine wl rfl (oassign (v:=.bool true) rfl rfl evc ?_)
  refine wnil (thenN ?_)
  refine wleave ?_
  refine blkR ?_
  refine thenR ?_
  refine blkR ?_
  refine thenR ?_
  refine wret2 Tryd.results49 (tellT (v:=.int .u32 (((n - 1:Nat):Int))) rfl rfl) (tellT (v:=.bool true) rfl rfl) ?_
  exact ⟨_,_,rfl,⟨by rw [show n - 1 = q by omega],rfl⟩,hS.new0⟩
 ·
  refine wl rfl (ocall rfl rfl Tryd.call22 rfl (wsis (n:=n - 1) (b:=false) (by omega) ⟨(fun h => by cases h),(fun h => absurd h (hno _ (by omega) (by omega)))⟩) (args1 (ev rfl rfl)) ?_)
  rintro _ w2 ⟨_,_,rfl,⟨rfl,rfl⟩,hN⟩
  refine ⟨_,rfl,?_⟩
  replace hS:=hS.news hN; clear hN
  refine wnil (thenN ?_)
  refine wF (ev rfl rfl) ?_
  refine wskip (blkN (thenN ?_))
  exact ⟨(n - 1),⟨_,act_sets (l:=[(0,.int .u32 (((n - 1:Nat):Int)))]) ⟨rfl,trivial⟩,hS.pick [] (by decide) rfl,by omega,by omega⟩,by omega⟩
theorem wqchoose {bd b2:Bool} {pd pb:Option Addr} {nd_ cd nb cb:Nat} {zd zb:Int} {w:World} (hd:Zr w bd pd nd_ cd zd 1048580) (hb:Zr w b2 pb nb cb zb 1048580) (h0:zd ≠ 0) (hb0:0 ≤ zb) {t k:Nat} (hbt:zb + zb = ((t:Nat):Int)) (htt:t < 2 ^ E41) (hk:ChK zd t k) :
  Calls Tryd.prog 13 #[.agg #[.bool bd,.slice pd nd_ cd],.agg #[.bool b2,.slice pb nb cb]] w (Ret (RwE (sel zd (PP.take k)) 0) w):=by
 have hkl:=hk.le
 have hS:=Sep.init w
 refine went Tryd.func13 rfl (n:=48) rfl rfl ?_
 refine wseq (wreg (wl rfl (obox [.bool bd,.slice pd nd_ cd] hS rfl rfl (ev (v:=.agg #[.bool bd,.slice pd nd_ cd]) rfl rfl) rfl ?_)))
 clear hS; intro g1 w2 hS
 refine wl rfl (obox [.bool b2,.slice pb nb cb] hS rfl rfl (ev (v:=.agg #[.bool b2,.slice pb nb cb]) rfl rfl) rfl ?_)
 clear hS; intro g3 w4 hS
 refine wl rfl (oassign (v:=.slice none 0 0) rfl rfl evc ?_)
 refine wl rfl (oassign (v:=.int .i64 0) rfl rfl evc ?_)
 refine wnil (thenN (wseq (wseq (wreg (wl rfl (oload (vs:=[.bool bd,.slice pd nd_ cd]) aggZ hS 1 rfl rfl (ev rfl rfl) rfl rfl rfl ?_))))))
 obtain ⟨s1,hs1⟩:∃ z:Int,Hid ((zd:Int).sign = z):=⟨_,rfl⟩
 refine wl rfl (ocall rfl rfl Tryd.call45 rfl (wqsign ((hd.at hS).mono (by omega)) hs1) (args1 (ev rfl rfl)) ?_)
 rintro _ w5 ⟨_,_,rfl,⟨rfl,rfl⟩,hN⟩
 refine ⟨_,rfl,?_⟩
 replace hS:=hS.news hN; clear hN
 refine wl rfl (obin (u:=.int .i64 s1) (v:=.int .i64 0) (z:=.bool false) rfl rfl (ev rfl rfl) evc (bin_eql (eqF (fun h => by have h9:=sign_neT hs1 h0; rw [h] at h9; exact absurd h9 (by decide)))) ?_)
 refine wnil (thenN ?_)
 refine wF (ev rfl rfl) ?_
 refine wskip (thenN (wseq (wseq (wreg (wl rfl (oload (vs:=[.bool b2,.slice pb nb cb]) aggZ hS 0 rfl rfl (ev rfl rfl) rfl rfl rfl ?_))))))
 obtain ⟨s2,hs2⟩:∃ z:Int,Hid ((zb:Int).sign = z):=⟨_,rfl⟩
 refine wl rfl (ocall rfl rfl Tryd.call45 rfl (wqsign ((hb.at hS).mono (by omega)) hs2) (args1 (ev rfl rfl)) ?_)
 rintro _ w6 ⟨_,_,rfl,⟨rfl,rfl⟩,hN⟩
 refine ⟨_,rfl,?_⟩
 replace hS:=hS.news hN; clear hN
 refine wl rfl (obin (u:=.int .i64 s2) (v:=.int .i64 0) (z:=.bool false) rfl rfl (ev rfl rfl) evc (bin_lss (decide_eq_false (fun h => by have h9:=(sign_neg hs2).1 h; omega))) ?_)
 refine wnil (thenN ?_)
 refine wF (ev rfl rfl) ?_
 refine wskip (thenN (wseq (wreg (wl rfl (ofieldAddr (g:=g3) (off:=0) 1 rfl rfl (ev rfl rfl) Tryd.runUnderlying28 rfl Tryd.sizeOf26 rfl ?_)))))
 refine wl rfl (oload1 (v:=.slice pb nb cb) oneN hS 0 rfl rfl (ev rfl rfl) rfl rfl ?_)
 refine wl rfl (ofieldAddr (g:=g3) (off:=0) 1 rfl rfl (ev rfl rfl) Tryd.runUnderlying28 rfl Tryd.sizeOf26 rfl ?_)
 refine wl rfl (oload1 (v:=.slice pb nb cb) oneN hS 0 rfl rfl (ev rfl rfl) rfl rfl ?_)
 obtain ⟨x3,hx3⟩:∃ x:Nat,Hid (zb.natAbs + zb.natAbs = x):=⟨_,rfl⟩
 have hkx3:ll x3 ≤ 1048581:=Nd.add hb.nr.ll hb.nr.ll hx3 (by omega)
 refine wl rfl (ocall rfl rfl Tryd.call46 rfl (wmadd ((hb.nr.at hS).mono (by omega)) ((hb.nr.at hS).mono (by omega)) hx3) (args2 (ev rfl rfl) (ev rfl rfl)) ?_)
 rintro _ w7 ⟨_,_,rfl,⟨p3,n3,c3,rfl,rfl⟩,hN⟩
 refine ⟨_,rfl,?_⟩
 replace hS:=hS.news hN; clear hN
 refine wl rfl (oassign (v:=.slice p3 n3 c3) rfl rfl (ev rfl rfl) ?_)
 refine wnil (thenN (wseq (wreg ?_)))
 have hkx4:ll 1 ≤ 2:=Nd.u64 (by omega)
 refine wl rfl (ocall rfl rfl Tryd.call47 rfl (wmof (x:=1) (by omega)) (args1 evc) ?_)
 rintro _ w8 ⟨_,_,rfl,⟨p4,n4,c4,rfl,rfl⟩,hN⟩
 refine ⟨_,rfl,?_⟩
 replace hS:=hS.news hN; clear hN
 refine wl rfl (oassign (v:=.slice p4 n4 c4) rfl rfl (ev rfl rfl) ?_)
 refine wnil (thenN (wseq (wreg (wl rfl (oassign (v:=.int .u32 4294967295) rfl rfl evc ?_)))))
 refine wnil (thenN (wseq (wreg (wl rfl (oassign (v:=.slice none 0 0) rfl rfl evc ?_)))))
 refine wnil (thenN (wseq (wblock ?_)))
 replace hS:=hS.nilRowm
 have hkA0:ll 1 ≤ 200:=Nat.le_trans (Nd.u64 (x:=1) (by decide)) (by decide)
 refine wloop (σ := Nat) (fun j a9 w' => ∃ (fb:Nat → Value) (p:Nat) (F:Nat) (xs:List Nat) (pA:Option Addr) (nA:Nat) (cA:Nat) (pO:Option Addr) (nO:Nat) (cO:Nat),a9 = act 48 (sets fb [(2,.pointer (some ⟨g1,0,none⟩)),(6,.slice p3 n3 c3),(7,.slice pA nA cA),(8,.int .u32 (p:Int)),(9,.slice pO nO cO)]) ∧ Sep w [.rowm pO nO cO xs,.row pA nA cA (lim F),.row p3 n3 c3 (lim x3),.blk g3 [.bool b2,.slice pb nb cb] 28,.blk g1 [.bool bd,.slice pd nd_ cd] 28] w' ∧ (j ≤ k) ∧ (PP.drop j = prs p) ∧ (p < 4294967296) ∧ (F = chF zd j) ∧ (xs = sel zd (PP.take j)) ∧ (xs.length = nO) ∧ (ll F ≤ 200)) (fun j => k - j) (0) ⟨_,4294967295,1,[],_,_,_,none,0,0,act_sets (l:=[(2,.pointer (some ⟨g1,0,none⟩)),(6,.slice p3 n3 c3),(7,.slice p4 n4 c4),(8,.int .u32 4294967295),(9,.slice none 0 0)]) ⟨rfl,rfl,rfl,rfl,rfl,trivial⟩,hS,Nat.zero_le _,rfl,(by decide),rfl,rfl,rfl,hkA0⟩ ?_
 clear hS; rintro j _ w9 ⟨fb,p,F,xs,pA,nA,cA,pO,nO,cO,rfl,hS,hj,hys,hp,hF,hxs,hnO,hkA⟩
 refine wseq (wseq (wreg (wl rfl (omove (v:=.slice pA nA cA) rfl rfl (ev rfl rfl) ?_))))
 refine wl rfl (omove (v:=.slice p3 n3 c3) rfl rfl (ev rfl rfl) ?_)
 obtain ⟨s5,hs5⟩:∃ z:Int,Hid (cmpN F x3 = z):=⟨_,rfl⟩
 refine wl rfl (ocall rfl rfl Tryd.call48 rfl (wmcmp ((hS.sl 1 rfl).nr hkA) ((hS.sl 2 rfl).nr hkx3) hs5) (args2 (ev rfl rfl) (ev rfl rfl)) ?_)
 rintro _ w10 ⟨_,_,rfl,⟨rfl,rfl⟩,hN⟩
 refine ⟨_,rfl,?_⟩
 replace hS:=hS.news hN; clear hN
 by_cases hlt:j < k
 ·
  refine wl rfl (obin (u:=.int .i64 s5) (v:=.int .i64 0) (z:=.bool true) rfl rfl (ev rfl rfl) evc (bin_leq ((cmpN_leD hs5).trans (decide_eq_true (by rw [hF, ← hx3.out]; have h9:=hk.low j hlt; omega)))) ?_)
  refine wnil (thenN ?_)
  refine wT (ev rfl rfl) ?_
  refine wskip (thenN (wblock (wseq (wreg (wl rfl (omove (v:=.int .u32 (p:Int)) rfl rfl (ev rfl rfl) ?_))))))
  obtain ⟨q,hq⟩:∃ q,PP[j]? = some q:=⟨_,List.getElem?_eq_getElem (by omega)⟩
  obtain ⟨hq1,hq2,hq3,hq4⟩:=prs_head (p:=p) (q:=q) (r:=PP.drop (j + 1)) (by rw [← hys,List.drop_eq_getElem_cons (by omega)]; rw [List.getElem?_eq_getElem (by omega)] at hq; rw [Option.some.inj hq])
  have hq5:=hq1.1
  have hFt:=hk.low j hlt
  have hsm:=ch_small hk htt hlt
  have hlen:nO < 4100:=by rw [← hnO,hxs]; exact hsm
  have hcf:=chF_at (zd:=zd) hq
  have hsn:=sel_next (z:=zd) hq
  have hll:=chF_ll hk htt (show j + 1 ≤ k by omega)
  refine wl rfl (ocall rfl rfl Tryd.call49 rfl (wqlast hp hq1 hq2 hq3) (args1 (ev rfl rfl)) ?_)
  rintro _ w11 ⟨_,_,rfl,⟨rfl,rfl⟩,hN⟩
  refine ⟨_,rfl,?_⟩
  replace hS:=hS.news hN; clear hN
  refine wl rfl (omove (v:=.tuple #[.int .u32 (q:Int),.bool true]) rfl rfl (ev rfl rfl) ?_)
  refine wl rfl (oextract (vs:=[.int .u32 (q:Int),.bool true]) (v:=.int .u32 (q:Int)) rfl rfl (ev rfl rfl) rfl ?_)
  refine wl rfl (oextract (vs:=[.int .u32 (q:Int),.bool true]) (v:=.bool true) rfl rfl (ev rfl rfl) rfl ?_)
  refine wl rfl (oassign (v:=.int .u32 (q:Int)) rfl rfl (ev rfl rfl) ?_)
  refine wnil (thenN (wseq (wseq (wreg (wl rfl (oload (vs:=[.bool bd,.slice pd nd_ cd]) aggZ hS 4 rfl rfl (ev rfl rfl) rfl rfl rfl ?_))))))
  refine wl rfl (omove (v:=.int .u32 (q:Int)) rfl rfl (ev rfl rfl) ?_)
  refine wl rfl (ocall rfl rfl Tryd.call23 rfl (wqmod ((hd.at hS).mono (by omega)) (by omega) (by omega)) (args2 (ev rfl rfl) (ev rfl rfl)) ?_)
  rintro _ w12 ⟨_,_,rfl,⟨rfl,rfl⟩,hN⟩
  refine ⟨_,rfl,?_⟩
  replace hS:=hS.news hN; clear hN
  by_cases hm:zd % ((q:Nat):Int) = 0
  ·
   refine wl rfl (obin (u:=.int .u32 (((zd % (q:Int)).toNat:Int))) (v:=.int .u32 0) (z:=.bool true) rfl rfl (ev rfl rfl) evc (bin_eql (eqT (by rw [hm]; rfl))) ?_)
   refine wnil (thenN ?_)
   refine wT (ev rfl rfl) ?_
   refine wexit ?_
   refine thenE ?_
   refine blkE ?_
   refine thenN ?_
   exact ⟨(j + 1),⟨_,_,_,_,_,_,_,_,_,_,act_sets (l:=[(2,.pointer (some ⟨g1,0,none⟩)),(6,.slice p3 n3 c3),(7,.slice pA nA cA),(8,.int .u32 (q:Int)),(9,.slice pO nO cO)]) ⟨rfl,rfl,rfl,rfl,rfl,trivial⟩,hS.pick [0,1,2,3,4] (by decide) rfl,by omega,hq4,by omega,by rw [hcf,if_pos hm]; exact hF,by rw [hsn,if_pos hm]; exact hxs,hnO,hkA⟩,by omega⟩
  ·
   refine wl rfl (obin (u:=.int .u32 (((zd % (q:Int)).toNat:Int))) (v:=.int .u32 0) (z:=.bool false) rfl rfl (ev rfl rfl) evc (bin_eql (eqF (by have h9:=Int.emod_nonneg zd (b:=(q:Int)) (by omega); omega))) ?_)
   refine wnil (thenN ?_)
   refine wF (ev rfl rfl) ?_
   refine wskip (thenN (wseq (wseq (wreg (wl rfl (omove (v:=.slice pO nO cO) rfl rfl (ev rfl rfl) ?_))))))
   refine wl rfl (olen rfl rfl rfl Tryd.runUnderlying25 (p:=pO) (k:=nO) (m:=cO) (ev rfl rfl) ?_)
   refine wl rfl (obin (u:=.int .i64 (nO:Int)) (v:=.int .i64 10000) (z:=.bool false) rfl rfl (ev rfl rfl) evc (bin_eql (eqF (by omega))) ?_)
   refine wnil (thenN ?_)
   refine wF (ev rfl rfl) ?_
   refine wskip (thenN (wseq (wreg (wl rfl (omove (v:=.slice pO nO cO) rfl rfl (ev rfl rfl) ?_)))))
   refine wl rfl (omove (v:=.int .u32 (q:Int)) rfl rfl (ev rfl rfl) ?_)
   refine wl rfl (obslice (ps:=#[(0,.int .u32 (q:Int))]) (z:=.int .u32 0) [.int .u32 (q:Int)] hS rfl rfl Tryd.runUnderlying25 Tryd.sizeOf34 Tryd.zeroValue34 (parts1 (ev (v:=.int .u32 (q:Int)) rfl rfl)) rfl (by decide) (fill1_1s rfl rfl) ?_)
   clear hS; intro g13 w14 hS
   obtain hS:=(show Sep w [.rowm pO nO cO xs,.blk g13 [.int .u32 (((q:Nat):Int))] 34,.row pA nA cA (lim F),.row p3 n3 c3 (lim x3),.blk g3 [.bool b2,.slice pb nb cb] 28,.blk g1 [.bool bd,.slice pd nd_ cd] 28] w14 from hS.pick [1,0,2,3,4,5] (by decide) rfl)
   refine wl rfl (oappendR (p:=pO) (m:=nO) (c:=cO) (xs:=xs) (k:=1) (c2:=1) (a:=(some ⟨g13,0,none⟩)) (ys:=([q])) hS rfl rfl Tryd.underlying25 infouint32 (ev (v:=.slice pO nO cO) rfl rfl) (ev (v:=.slice (some ⟨g13,0,none⟩) 1 1) rfl rfl) (Sl.blk1 (hS.blkAt 1 rfl) (by omega)) (by omega) (by omega) ?_)
   clear hS; intro p16 c17 w15 hS
   refine wl rfl (oassign (v:=.slice p16 ((nO + 1)) c17) rfl rfl (ev rfl rfl) ?_)
   refine wnil (thenN (wreg (wl rfl (omove (v:=.slice pA nA cA) rfl rfl (ev rfl rfl) ?_))))
   refine wl rfl (omove (v:=.int .u32 (q:Int)) rfl rfl (ev rfl rfl) ?_)
   refine wl rfl (oconvert (u:=.int .u32 (q:Int)) (v:=.int .u64 (q:Int)) rfl rfl (ev rfl rfl) (convert_int Tryd.runUnderlying34 Tryd.runUnderlying70 (wrap_u64 (by omega) (by omega))) ?_)
   have hkx6:ll q ≤ 2:=Nd.u64 (by omega)
   refine wl rfl (ocall rfl rfl Tryd.call47 rfl (wmof (x:=q) (by omega)) (args1 (ev rfl rfl)) ?_)
   rintro _ w18 ⟨_,_,rfl,⟨p6,n6,c6,rfl,rfl⟩,hN⟩
   refine ⟨_,rfl,?_⟩
   replace hS:=hS.news hN; clear hN
   obtain ⟨x7,hx7⟩:∃ x:Nat,Hid (F * q = x):=⟨_,rfl⟩
   have hkx7:ll x7 ≤ 202:=Nd.mul hkA hkx6 hx7 (by omega)
   refine wl rfl (ocall rfl rfl Tryd.call50 rfl (wmmul (((hS.sl 3 rfl).nr hkA).mono (by omega)) (((hS.sl 0 rfl).nr hkx6).mono (by omega)) hx7) (args2 (ev rfl rfl) (ev rfl rfl)) ?_)
   rintro _ w19 ⟨_,_,rfl,⟨p7,n7,c7,rfl,rfl⟩,hN⟩
   refine ⟨_,rfl,?_⟩
   replace hS:=hS.news hN; clear hN
   refine wl rfl (oassign (v:=.slice p7 n7 c7) rfl rfl (ev rfl rfl) ?_)
   refine wnil (blkN (thenN ?_))
   exact ⟨(j + 1),⟨_,_,_,_,_,_,_,_,_,_,act_sets (l:=[(2,.pointer (some ⟨g1,0,none⟩)),(6,.slice p3 n3 c3),(7,.slice p7 n7 c7),(8,.int .u32 (q:Int)),(9,.slice p16 ((nO + 1)) c17)]) ⟨rfl,rfl,rfl,rfl,rfl,trivial⟩,hS.pick [2,0,5,6,7] (by decide) rfl,by omega,hq4,by omega,hx7.out.symm.trans (by rw [hcf,if_neg hm, ← hF]),by rw [hsn,if_neg hm, ← hxs],by rw [List.length_append,hnO]; rfl,by have h9:=hx7.out; rw [hcf,if_neg hm, ← hF] at hll; first | exact hll | (rw [← h9]; exact hll)⟩,by omega⟩
 ·
  refine wl rfl (obin (u:=.int .i64 s5) (v:=.int .i64 0) (z:=.bool false) rfl rfl (ev rfl rfl) evc (bin_leq ((cmpN_leD hs5).trans (decide_eq_false (by have h8:j = k:=(by omega); rw [hF, ← hx3.out,h8]; have h9:=hk.top; omega)))) ?_)
  refine wnil (thenN ?_)
  refine wF (ev rfl rfl) ?_
  refine wexit ?_
  refine thenE ?_
  refine thenE ?_
  refine blkE ?_
  refine thenN (wseq (wreg (wl rfl (omove (v:=.slice pO nO cO) rfl rfl (ev rfl rfl) ?_))))
  refine wl rfl (oassign (v:=.slice pO nO cO) rfl rfl (ev rfl rfl) ?_)
  refine wl rfl (oassign (v:=.int .i64 0) rfl rfl evc ?_)
  refine wnil (thenN ?_)
  refine wleave ?_
  have hjk:j = k:=by omega
  refine wret2 Tryd.results13 (tellT (v:=.slice pO nO cO) rfl rfl) (tellT (v:=.int .i64 0) rfl rfl) ?_
  rw [hjk] at hxs
  subst hxs
  subst hnO
  exact ⟨_,_,rfl,⟨pO,cO,rfl,rfl⟩,hS.newR 0 rfl rfl⟩
end Go.Proofs.YthnilcgmljecdaaDoor
/-
  The laws of choosing: what is chosen,plainly.
-/
namespace Go.Proofs.YthnilcgmljecdaaDoor
open Go.RowKit
theorem Sep.rowCell {w0 w:World} {R:List Res} (hS:Sep w0 R w) (k:Nat) {p:Option Addr} {g off n c i:Nat} {xs:List Nat} (hk:R[k]? = some (.rowm p n c xs)) (hp:p = some ⟨g,off,none⟩) (hi:i < n):w.cell? ⟨g,off + i,none⟩ = some (.int .u32 ((nd xs i:Nat):Int)):=by
  obtain ⟨b,o,h1,h2⟩:=(hS.slm k hk).cell i hi
  rw [hp] at h1
  simp only [Option.some.injEq,Addr.mk.injEq,and_true] at h1
  obtain ⟨rfl,rfl⟩:=h1
  exact h2
theorem prs_pair:∀ n,(prs n).Pairwise (fun a b => b < a)
 | 0 => by rw [prs]; exact List.Pairwise.nil
 | n + 1 => by
  by_cases e:MR.Pr n
  ·rw [prs_take e]
   exact List.pairwise_cons.2 ⟨fun q hq => (prs_mem n hq).2,prs_pair n⟩
  ·rw [prs_skip e]; exact prs_pair n
theorem sel_pair (z:Int) (k:Nat):(sel z (PP.take k)).Pairwise (fun a b => b < a):=((prs_pair _).sublist (List.take_sublist k _)).sublist List.filter_sublist
theorem sel_falls {z:Int} {k i:Nat} (h:i < (sel z (PP.take k)).length) (h0:i ≠ 0):nd (sel z (PP.take k)) i < nd (sel z (PP.take k)) (i - 1):=by
  rw [nd_get h,nd_get (by omega)]
  exact List.pairwise_iff_getElem.1 (sel_pair z k) (i - 1) i (by omega) h (by omega)
theorem sel_pr {z:Int} {k i:Nat} (h:i < (sel z (PP.take k)).length):MR.Pr (nd (sel z (PP.take k)) i) ∧ nd (sel z (PP.take k)) i < 4294967295 ∧ z % ((nd (sel z (PP.take k)) i:Nat):Int) ≠ 0:=by
  rw [nd_get h]
  obtain ⟨h1,h2⟩:=sel_mem (List.getElem_mem h)
  have h3:=List.mem_of_mem_take h1
  exact ⟨PP_pr h3,PP_lt h3,h2⟩
theorem ef_none:∀ (r pre:List Nat),(∀ p ∈ r,MR.Pr p) → r.Pairwise (fun a b => b < a) → (∀ p ∈ r,p ∉ pre) → ef pre r = 0
 | [],_,_,_,_ => by rw [ef]
 | x :: r,pre,h1,h2,h3 => by
  obtain ⟨h4,h5⟩:=List.pairwise_cons.1 h2
  rw [ef,if_pos (h1 x List.mem_cons_self),if_neg (h3 x List.mem_cons_self)]
  refine ef_none r (pre ++ [x]) (fun p hp => h1 p (List.mem_cons_of_mem _ hp)) h5 fun p hp hm => ?_
  rcases List.mem_append.1 hm with h6 | h6
  ·exact h3 p (List.mem_cons_of_mem _ hp) h6
  ·have h7:=h4 p hp
   rw [List.mem_singleton.1 h6] at h7
   omega
theorem chosen_ef (z:Int) (k:Nat):ef [] (sel z (PP.take k)) = 0:=ef_none _ [] (fun p hp => PP_pr (List.mem_of_mem_take (sel_mem hp).1)) (sel_pair z k) (fun _ _ h => by cases h)
theorem chosen_lp {z:Int} {t k:Nat} (h:ChK z t k):lp (sel z (PP.take k)) (sel z (PP.take k)).length ≤ t:=by
 cases k with
 | zero => exact Nat.zero_le _
 | succ i =>
  have hi:i < PP.length:=h.le
  have h1:=h.low i (by omega)
  have h2:=h.top
  unfold chF at h1 h2
  rw [sel_next (List.getElem?_eq_getElem hi)] at h2 ⊢
  split at h2
  ·omega
  ·next hm =>
   rw [if_neg hm,List.length_append]
   show pdn ((sel z (PP.take i) ++ [PP[i]]).take (sel z (PP.take i)).length) ≤ t
   rw [List.take_left' rfl]; exact h1
theorem chosen_enV {zd zb:Int} {t k:Nat} (h:ChK zd t k) (hb0:0 ≤ zb) (hbt:zb + zb = ((t:Nat):Int)):enV zb (sel zd (PP.take k)) = Value.tuple #[.bool true,.bool true,.int .i64 0]:=by
  have he:=chosen_ef zd k
  have hn:¬ zb < 0:=by omega
  have h1:enX zb (sel zd (PP.take k)) = true:=by rw [← enX_ok hn he,hbt]; exact decide_eq_true (Int.ofNat_lt.2 h.top)
  have h2:enY zb (sel zd (PP.take k)) = true:=by rw [← enY_ok hn he,hbt]; exact decide_eq_true (Int.ofNat_le.2 (chosen_lp h))
  rw [← enV_ok hn he,h1,h2]
theorem few_bits {b:Bool} {ys:List Nat} (h:¬ 4096 < blen (val ys)) (h0:¬ zv b (val ys) < 0):∃ t:Nat,zv b (val ys) + zv b (val ys) = ((t:Nat):Int) ∧ t < 2 ^ E41:=by
 have h1:=lt_blen (val ys)
 have h2:2 ^ blen (val ys) * 2 ≤ 2 ^ E41:=by
  rw [← Nat.pow_succ]; exact Nat.pow_le_pow_right (by decide) (by unfold E41; omega)
 have h3:(zv b (val ys)).natAbs = val ys:=by unfold zv; cases b <;> simp
 refine ⟨val ys + val ys,by omega,?_⟩
 omega
theorem all_bits {b:Bool} {xs:List Nat} {N:Nat} (hN:N = 33554432) (hl:Lims xs) (h:xs.length ≤ 1048576):(zv b (val xs)).natAbs < 2 ^ N:=by
 have h1:=val_lt hl
 have h3:(zv b (val xs)).natAbs = val xs:=by unfold zv; cases b <;> simp
 have h2:4294967296 ^ xs.length ≤ 2 ^ N:=by
  rw [show 4294967296 = 2 ^ 32 by decide, ← Nat.pow_mul]
  exact Nat.pow_le_pow_right (by decide) (by omega)
 omega
def E33:Nat:=33554432
end Go.Proofs.YthnilcgmljecdaaDoor
