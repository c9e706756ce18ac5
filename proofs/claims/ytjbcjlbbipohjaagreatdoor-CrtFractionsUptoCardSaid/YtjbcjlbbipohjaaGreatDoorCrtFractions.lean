
/-
  The walks of simileref04.OfRat and similelaw06.CrtFractions.
-/
import Derived.Test.YtjbcjlbbipohjaaGreatDoorCrtF3
import Derived.Test.YtjbcjlbbipohjaaGreatDoorLT
set_option linter.unusedVariables false
set_option linter.unusedSimpArgs false
set_option maxRecDepth 100000
set_option maxHeartbeats 16000000
namespace Go.Proofs.YtjbcjlbbipohjaaGreatDoor
open Go.RowKit
def ofd (x y:Int) (q:Nat):Nat:=(y.tdiv (Int.gcd x y) % (q:Int)).toNat
def ofr (x y:Int) (q:Nat):Nat:=(x.tdiv (Int.gcd x y) % (q:Int)).toNat * (ofd x y q ^ (q - 2) % q) % q
def PFr (x y:Int) (K:List Nat):List (Nat × Nat):=K.map fun q:Nat => (ofr x y q,q)
theorem PFr_len (x y:Int) (K:List Nat):(PFr x y K).length = K.length:=List.length_map _
theorem PFr_app (x y:Int) (K:List Nat) (q:Nat):PFr x y (K ++ [q]) = PFr x y K ++ [(ofr x y q,q)]:=by simp [PFr]
theorem toNat_mod {z:Int} {q:Nat} (hq:0 < q):(q:Int) ∣ z - ((z % (q:Int)).toNat:Nat):=by
  have h0:=Int.emod_nonneg z (b:=(q:Int)) (by omega)
  rw [Int.toNat_of_nonneg h0]
  exact Int.dvd_self_sub_emod
theorem nat_mod_dvd {a q:Nat}:(q:Int) ∣ (a:Int) - ((a % q:Nat):Int):=by
  rw [Int.natCast_emod]; exact Int.dvd_self_sub_emod
theorem ofr_num {x y:Int} {q:Nat} (hp:MR.Pr q) (hd:ofd x y q ≠ 0):(q:Int) ∣ x.tdiv (Int.gcd x y) - (ofr x y q:Nat) * y.tdiv (Int.gcd x y):=by
 have h2:=hp.1
 have hD:ofd x y q < q:=by
  have:=Int.emod_lt_of_pos (y.tdiv (Int.gcd x y)) (b:=(q:Int)) (by omega)
  unfold ofd; omega
 have hnd:¬ q ∣ ofd x y q:=fun h => by have:=Nat.le_of_dvd (by omega) h; omega
 have hi:=inv_pow hp hnd
 have e1:=toNat_mod (z:=x.tdiv (Int.gcd x y)) (q:=q) (by omega)
 have e2:(q:Int) ∣ y.tdiv (Int.gcd x y) - (ofd x y q:Nat):=toNat_mod (by omega)
 unfold ofr
 generalize (x.tdiv (Int.gcd x y) % (q:Int)).toNat = N at *
 generalize x.tdiv (Int.gcd x y) = num at *
 generalize y.tdiv (Int.gcd x y) = den at *
 generalize ofd x y q = D at *
 generalize D ^ (q - 2) % q = i at *
 have e3:=nat_mod_dvd (a:=N * i) (q:=q)
 have e4:=nat_mod_dvd (a:=D * i) (q:=q)
 rw [hi] at e4
 rw [Int.natCast_mul] at e3 e4
 generalize ((N * i % q:Nat):Int) = a at *
 obtain ⟨k1,h1⟩:=e1
 obtain ⟨k2,h2⟩:=e2
 obtain ⟨k3,h3⟩:=e3
 obtain ⟨k4,h4⟩:=e4
 refine ⟨k1 - a * k2 + k3 * (D:Int) - (N:Int) * k4,?_⟩
 have:((1:Nat):Int) = 1:=rfl
 grind
theorem ofr_dvd {x y:Int} {q:Nat} (hp:MR.Pr q) (hd:ofd x y q ≠ 0):(q:Int) ∣ RN x y - (ofr x y q:Nat) * RD x y:=by
 have h:=ofr_num hp hd
 unfold RN RD sgd
 split
 ·rw [Int.tdiv_neg,Int.tdiv_neg,Int.mul_neg]
  obtain ⟨k,hk⟩:=h
  exact ⟨-k,by rw [Int.mul_neg]; omega⟩
 ·exact h
theorem ofd_not {x y:Int} {q:Nat} (hq:0 < q) (hd:ofd x y q ≠ 0):¬ q ∣ (RD x y).natAbs:=fun h => by
 have h1:(q:Int) ∣ RD x y:=Int.ofNat_dvd_left.2 h
 have h2:(q:Int) ∣ y.tdiv (Int.gcd x y):=by
  unfold RD sgd at h1
  split at h1
  ·rw [Int.tdiv_neg] at h1; exact (Int.dvd_neg).1 h1
  ·exact h1
 apply hd
 unfold ofd
 rw [Int.emod_eq_zero_of_dvd h2]; rfl
theorem pr_cop {q d:Nat} (hp:MR.Pr q) (h:¬ q ∣ d):Nat.Coprime q d:=by
  rcases hp.2 _ (Nat.gcd_dvd_left q d) with e | e
  · exact e
  · exact absurd (e ▸ Nat.gcd_dvd_right q d) h
theorem cv_cop {l:List (Nat × Nat)} {d:Nat}:Gd l → (∀ x ∈ l, ¬ x.2 ∣ d) → Nat.Coprime (cv l).2 d:=by
 induction l using snoc_ind with
 | h0 => intro _ _; exact Nat.gcd_one_left d
 | h1 l x ih =>
  intro h hd
  obtain ⟨g1,g2,g3⟩:=Gd.snoc.1 h
  rw [cv_snoc]
  exact Nat.Coprime.mul_left (ih g1 fun y hy => hd y (List.mem_append_left _ hy)) (pr_cop g2 (hd x (by simp)))
theorem fr_dvd {x y:Int} {K:List Nat} (hK:∀ q ∈ K,MR.Pr q ∧ ofd x y q ≠ 0) {L:List (Nat × Nat)} (hL:PFr x y K = L) (h:Gd L):(((cv L).2:Nat):Int) ∣ RN x y - ((cv L).1:Nat) * RD x y:=by
 subst hL
 refine Int.ofNat_dvd_left.2 (dvd_all h fun x' hx => ?_)
 have hs:=(cv_says h x' hx).1
 obtain ⟨q,hq,rfl⟩:=List.mem_map.1 hx
 obtain ⟨hp,hd⟩:=hK q hq
 simp only at hs
 obtain ⟨k,hk⟩:=ofr_dvd hp hd
 have e:(q:Int) ∣ ((cv (PFr x y K)).1:Int) - (ofr x y q:Nat):=by
  refine Int.dvd_of_emod_eq_zero (Int.emod_eq_emod_iff_emod_sub_eq_zero.1 ?_)
  rw [← Int.natCast_emod, ← Int.natCast_emod,hs]
 obtain ⟨j,hj⟩:=e
 refine Int.ofNat_dvd_left.1 ⟨k - j * RD x y,?_⟩
 show RN x y - _ * RD x y = (q:Int) * _
 have e2:((cv (PFr x y K)).1:Int) = (ofr x y q:Nat) + (q:Int) * j:=by omega
 rw [e2]
 grind
theorem fr_cop {x y:Int} {K:List Nat} (hK:∀ q ∈ K,MR.Pr q ∧ ofd x y q ≠ 0) {L:List (Nat × Nat)} (hL:PFr x y K = L) (h:Gd L):Int.gcd (RD x y) (((cv L).2:Nat):Int) = 1:=by
 subst hL
 have:=cv_cop (d:=(RD x y).natAbs) h fun x' hx => by
  obtain ⟨q,hq,rfl⟩:=List.mem_map.1 hx
  obtain ⟨hp,hd⟩:=hK q hq
  exact ofd_not (by have:=hp.1; omega) hd
 rw [Int.gcd_comm]
 exact this
theorem fr_found {x y:Int} {K:List Nat} {b:Nat} (hy:y ≠ 0) (hK:∀ q ∈ K,MR.Pr q ∧ ofd x y q ≠ 0) {L:List (Nat × Nat)} (hL:PFr x y K = L) (h:Gd L) (hb:b * b + b * b < (cv L).2) (h1:(RN x y).natAbs ≤ b) (h2:(RD x y).natAbs ≤ b) :
  rce (cv L).1 (cv L).2 b = 0 ∧ rcx (cv L).1 (cv L).2 b = RN x y ∧ rcy (cv L).1 (cv L).2 b = RD x y:=by
 have hp:=RD_pos (x:=x) hy
 have hf:=rcs_found (cv_lt h) hb h1 hp (by omega) (R_gcd hy) (fr_dvd hK hL h)
 exact rce_0 (cv_lt h) hb hf (by omega) (by omega) (R_gcd hy) (fr_cop hK hL h)
theorem rc_all {v m b:Nat} (h0:rce v m b = 0) (hb:b * b + b * b < m):(rcx v m b).natAbs ≤ b ∧ (rcy v m b).natAbs ≤ b ∧ (m:Int) ∣ rcx v m b - (v:Int) * rcy v m b:=by
 have hv:v < m:=Classical.byContradiction fun h => by rw [rce_1 (fun h' => h h'.1)] at h0; cases h0
 have hbm:b < m:=by have:=Nat.le_mul_self b; omega
 obtain ⟨h1,h2⟩:=rcs_so hv hbm
 have hn:=sfix_nn (rcs v m b)
 unfold rcx rcy
 rw [if_pos h0,if_pos h0]
 refine ⟨h1,?_,h2⟩
 unfold rce at h0
 rw [if_pos ⟨hv,hb⟩] at h0
 split at h0
 ·rename_i hok
  simp only [rcOk,Bool.and_eq_true,decide_eq_true_eq] at hok
  omega
 ·cases h0
theorem rce_61' {v m b:Nat} (hv:v < m) (hb:b * b + b * b < m) (h0:rce v m b ≠ 0):rce v m b = 61:=by
  unfold rce at h0 ⊢
  rw [if_pos ⟨hv,hb⟩] at h0 ⊢
  split
  · rename_i hok; rw [if_pos hok] at h0; exact absurd rfl h0
  · rfl
theorem wsof4 {b:Bool} {p:Option Addr} {n c q:Nat} {z:Int} {w:World} (hx:Zr w b p n c z 549755813000) (hq:q < 4294967296) (h0:q ≠ 0) :
  Calls Tryz.prog 79 #[.agg #[.bool b,.slice p n c],.int .u32 ((q:Nat):Int)] w (Ret (Is (.int .u32 (((z % ((q:Nat):Int)).toNat:Nat):Int))) w):=by
 have hS:=Sep.init w
 refine went Tryz.func79 rfl (n:=8) rfl rfl ?_
 refine wseq (wreg (wl rfl (obox [.bool b,.slice p n c] hS rfl rfl (ev (v:=.agg #[.bool b,.slice p n c]) rfl rfl) rfl ?_)))
 clear hS; intro g1 w2 hS
 refine wl rfl (oassign (v:=.int .u32 0) rfl rfl evc ?_)
 refine wnil (thenN (wseq (wreg (wl rfl (oload (vs:=[.bool b,.slice p n c]) aggZ hS 0 rfl rfl (ev rfl rfl) rfl rfl rfl ?_)))))
 refine wl rfl (omove (v:=.int .u32 (q:Int)) rfl rfl (ev rfl rfl) ?_)
 refine wl rfl (ocall rfl rfl Tryz.call19 rfl (wqmod (hx.at hS) hq h0) (args2 (ev rfl rfl) (ev rfl rfl)) ?_)
 rintro _ w3 ⟨_,_,rfl,⟨rfl,rfl⟩,hN⟩
 refine ⟨_,rfl,?_⟩
 replace hS:=hS.news hN; clear hN
 refine wl rfl (oassign (v:=.int .u32 ((((z % (q:Int)).toNat:Nat):Int))) rfl rfl (ev rfl rfl) ?_)
 refine wnil (thenN ?_)
 refine wleave ?_
 refine wret1 Tryz.results79 (tellT (v:=.int .u32 ((((z % (q:Int)).toNat:Nat):Int))) rfl rfl) ?_
 exact ⟨_,_,rfl,isI,hS.new0⟩
theorem wsofrat0 {bx by_:Bool} {px py:Option Addr} {nx cx ny cy q:Nat} {x y:Int} {w:World} (hx:Zr w bx px nx cx x 2097152) (hy:Zr w by_ py ny cy y 2097152) (hy0:y ≠ 0) (hp:MR.Pr q) (hq:q < 4294967296) (hd:ofd x y q = 0) :
  Calls Tryz.prog 24 #[.agg #[.bool bx,.slice px nx cx,.bool by_,.slice py ny cy],.int .u32 ((q:Nat):Int)] w (Ret (Is (.tuple #[.int .u32 0,.bool false])) w):=by
 have hp1:=hp.1
 have hg0:(Int.gcd x y:Int) ≠ 0:=by have:=Int.gcd_pos_of_ne_zero_right x hy0; omega
 have hS:=Sep.init w
 refine went Tryz.func24 rfl (n:=44) rfl rfl ?_
 refine wseq (wreg (wl rfl (obox [.bool bx,.slice px nx cx,.bool by_,.slice py ny cy] hS rfl rfl (ev (v:=.agg #[.bool bx,.slice px nx cx,.bool by_,.slice py ny cy]) rfl rfl) rfl ?_)))
 clear hS; intro g1 w2 hS
 refine wl rfl (oassign (v:=.int .u32 0) rfl rfl evc ?_)
 refine wl rfl (oassign (v:=.bool false) rfl rfl evc ?_)
 refine wnil (thenN (wseq (wreg (wl rfl (ofieldAddr (g:=g1) (off:=0) 0 rfl rfl (ev rfl rfl) Tryz.runUnderlying30 rfl Tryz.sizeOf28 rfl ?_)))))
 refine wl rfl (oload (vs:=[.bool bx,.slice px nx cx]) aggZ hS 0 rfl rfl (ev rfl rfl) rfl rfl rfl ?_)
 refine wl rfl (ofieldAddr (g:=g1) (off:=0) 2 rfl rfl (ev rfl rfl) Tryz.runUnderlying30 rfl Tryz.sizeOf28 rfl ?_)
 refine wl rfl (oload (vs:=[.bool by_,.slice py ny cy]) aggZ hS 0 rfl rfl (ev rfl rfl) rfl rfl rfl ?_)
 obtain ⟨z1,hz1⟩:∃ z:Int,Hid ((Int.gcd x y:Int) = z):=⟨_,rfl⟩
 have hk1:Wd z1 2097152:=Wd.gcd hx.wd hy.wd hz1 (by omega)
 refine wl rfl (ocall rfl rfl Tryz.call77 rfl (wqgcd ((hx.at hS).mono (by omega)) ((hy.at hS).mono (by omega)) hz1) (args2 (ev rfl rfl) (ev rfl rfl)) ?_)
 rintro _ w3 ⟨_,_,rfl,⟨p1,n1,c1,rfl,rfl⟩,hN⟩
 refine ⟨_,rfl,?_⟩
 replace hS:=hS.news hN; clear hN
 refine wl rfl (oalloc [.bool false,.slice none 0 0] hS rfl rfl Tryz.zeroValue28 rfl ?_)
 clear hS; intro g4 w5 hS
 refine wl rfl (ostore [.bool (ng z1),.slice p1 n1 c1] [.bool (ng z1),.slice p1 n1 c1] Tryz.sizeOf28 hS 0 rfl rfl (ev rfl rfl) (ev (v:=.agg #[.bool (ng z1),.slice p1 n1 c1]) rfl rfl) rfl rfl rfl rfl rfl rfl ?_)
 clear hS; intro w6 hS
 refine wnil (thenN (wseq (wreg (wl rfl (ofieldAddr (g:=g1) (off:=0) 0 rfl rfl (ev rfl rfl) Tryz.runUnderlying30 rfl Tryz.sizeOf28 rfl ?_)))))
 refine wl rfl (oload (vs:=[.bool bx,.slice px nx cx]) aggZ hS 2 rfl rfl (ev rfl rfl) rfl rfl rfl ?_)
 refine wl rfl (oload (vs:=[.bool (ng z1),.slice p1 n1 c1]) aggZ hS 0 rfl rfl (ev rfl rfl) rfl rfl rfl ?_)
 obtain ⟨z2,hz2⟩:∃ z:Int,Hid (Int.tdiv x z1 = z):=⟨_,rfl⟩
 have hk2:Wd z2 2097152:=Wd.tdiv hx.wd hz2
 refine wl rfl (ocall rfl rfl Tryz.call78 rfl (wqexact ((hx.at hS).mono (by omega)) (((hS.sl 1 rfl).zr hk1).mono (by omega)) (by rw [← hz1.out]; exact hg0) (by rw [← hz1.out]; exact Int.tmod_eq_zero_of_dvd (Int.gcd_dvd_left ..)) hz2) (args2 (ev rfl rfl) (ev rfl rfl)) ?_)
 rintro _ w7 ⟨_,_,rfl,⟨p2,n2,c2,rfl,rfl⟩,hN⟩
 refine ⟨_,rfl,?_⟩
 replace hS:=hS.news hN; clear hN
 refine wl rfl (omove (v:=.tuple #[.agg #[.bool (ng z2),.slice p2 n2 c2],.bool true]) rfl rfl (ev rfl rfl) ?_)
 refine wl rfl (oextract (vs:=[.agg #[.bool (ng z2),.slice p2 n2 c2],.bool true]) (v:=.agg #[.bool (ng z2),.slice p2 n2 c2]) rfl rfl (ev rfl rfl) rfl ?_)
 refine wl rfl (oextract (vs:=[.agg #[.bool (ng z2),.slice p2 n2 c2],.bool true]) (v:=.bool true) rfl rfl (ev rfl rfl) rfl ?_)
 refine wl rfl (oalloc [.bool false,.slice none 0 0] hS rfl rfl Tryz.zeroValue28 rfl ?_)
 clear hS; intro g8 w9 hS
 refine wl rfl (ostore [.bool (ng z2),.slice p2 n2 c2] [.bool (ng z2),.slice p2 n2 c2] Tryz.sizeOf28 hS 0 rfl rfl (ev rfl rfl) (ev (v:=.agg #[.bool (ng z2),.slice p2 n2 c2]) rfl rfl) rfl rfl rfl rfl rfl rfl ?_)
 clear hS; intro w10 hS
 refine wl rfl (oassign (v:=.bool true) rfl rfl (ev rfl rfl) ?_)
 refine wnil (thenN (wseq (wreg (wl rfl (ofieldAddr (g:=g1) (off:=0) 2 rfl rfl (ev rfl rfl) Tryz.runUnderlying30 rfl Tryz.sizeOf28 rfl ?_)))))
 refine wl rfl (oload (vs:=[.bool by_,.slice py ny cy]) aggZ hS 4 rfl rfl (ev rfl rfl) rfl rfl rfl ?_)
 refine wl rfl (oload (vs:=[.bool (ng z1),.slice p1 n1 c1]) aggZ hS 2 rfl rfl (ev rfl rfl) rfl rfl rfl ?_)
 obtain ⟨z3,hz3⟩:∃ z:Int,Hid (Int.tdiv y z1 = z):=⟨_,rfl⟩
 have hk3:Wd z3 2097152:=Wd.tdiv hy.wd hz3
 refine wl rfl (ocall rfl rfl Tryz.call78 rfl (wqexact ((hy.at hS).mono (by omega)) (((hS.sl 3 rfl).zr hk1).mono (by omega)) (by rw [← hz1.out]; exact hg0) (by rw [← hz1.out]; exact Int.tmod_eq_zero_of_dvd (Int.gcd_dvd_right ..)) hz3) (args2 (ev rfl rfl) (ev rfl rfl)) ?_)
 rintro _ w11 ⟨_,_,rfl,⟨p3,n3,c3,rfl,rfl⟩,hN⟩
 refine ⟨_,rfl,?_⟩
 replace hS:=hS.news hN; clear hN
 refine wl rfl (omove (v:=.tuple #[.agg #[.bool (ng z3),.slice p3 n3 c3],.bool true]) rfl rfl (ev rfl rfl) ?_)
 refine wl rfl (oextract (vs:=[.agg #[.bool (ng z3),.slice p3 n3 c3],.bool true]) (v:=.agg #[.bool (ng z3),.slice p3 n3 c3]) rfl rfl (ev rfl rfl) rfl ?_)
 refine wl rfl (oextract (vs:=[.agg #[.bool (ng z3),.slice p3 n3 c3],.bool true]) (v:=.bool true) rfl rfl (ev rfl rfl) rfl ?_)
 refine wl rfl (oalloc [.bool false,.slice none 0 0] hS rfl rfl Tryz.zeroValue28 rfl ?_)
 clear hS; intro g12 w13 hS
 refine wl rfl (ostore [.bool (ng z3),.slice p3 n3 c3] [.bool (ng z3),.slice p3 n3 c3] Tryz.sizeOf28 hS 0 rfl rfl (ev rfl rfl) (ev (v:=.agg #[.bool (ng z3),.slice p3 n3 c3]) rfl rfl) rfl rfl rfl rfl rfl rfl ?_)
 clear hS; intro w14 hS
 refine wl rfl (oassign (v:=.bool true) rfl rfl (ev rfl rfl) ?_)
 refine wnil (thenN (wseq (wreg (wl rfl (oload (vs:=[.bool (ng z3),.slice p3 n3 c3]) aggZ hS 0 rfl rfl (ev rfl rfl) rfl rfl rfl ?_)))))
 refine wl rfl (omove (v:=.int .u32 (q:Int)) rfl rfl (ev rfl rfl) ?_)
 refine wl rfl (ocall rfl rfl Tryz.call79 rfl ((show Calls _ _ _ _ (Ret (Is (.int .u32 ((ofd x y q:Nat):Int))) _) from by rw [show ofd x y q = (z3 % (q:Int)).toNat from by rw [← hz3.out, ← hz1.out]; rfl]; exact wsof4 (((hS.sl 1 rfl).zr hk3).mono (by omega)) hq (by omega))) (args2 (ev rfl rfl) (ev rfl rfl)) ?_)
 rintro _ w15 ⟨_,_,rfl,⟨rfl,rfl⟩,hN⟩
 refine ⟨_,rfl,?_⟩
 replace hS:=hS.news hN; clear hN
 refine wl rfl (oassign (v:=.int .u32 (((ofd x y q:Nat):Int))) rfl rfl (ev rfl rfl) ?_)
 refine wnil (thenN (wseq (wseq (wreg (wl rfl (omove (v:=.int .u32 (((ofd x y q:Nat):Int))) rfl rfl (ev rfl rfl) ?_))))))
 refine wl rfl (obin (u:=.int .u32 (((ofd x y q:Nat):Int))) (v:=.int .u32 0) (z:=.bool true) rfl rfl (ev rfl rfl) evc (bin_eql (eqT (by omega))) ?_)
 refine wnil (thenN ?_)
 refine wT (ev rfl rfl) ?_
 refine wseq (wreg (wl rfl (oassign (v:=.int .u32 0) rfl rfl evc ?_)))
 refine wl rfl (oassign (v:=.bool false) rfl rfl evc ?_)
 refine wnil (thenN ?_)
 refine wleave ?_
 refine thenR ?_
 refine wret2 Tryz.results24 (tellT (v:=.int .u32 0) rfl rfl) (tellT (v:=.bool false) rfl rfl) ?_
 exact ⟨_,_,rfl,isI,hS.new0⟩
theorem wsofrat {bx by_:Bool} {px py:Option Addr} {nx cx ny cy q:Nat} {x y:Int} {w:World} (hx:Zr w bx px nx cx x 2097152) (hy:Zr w by_ py ny cy y 2097152) (hy0:y ≠ 0) (hp:MR.Pr q) (hq:q < 4294967296) (hd:ofd x y q ≠ 0) :
  Calls Tryz.prog 24 #[.agg #[.bool bx,.slice px nx cx,.bool by_,.slice py ny cy],.int .u32 ((q:Nat):Int)] w (Ret (Is (.tuple #[.int .u32 ((ofr x y q:Nat):Int),.bool true])) w):=by
 have hp1:=hp.1
 have hg0:(Int.gcd x y:Int) ≠ 0:=by have:=Int.gcd_pos_of_ne_zero_right x hy0; omega
 have hD:ofd x y q < q:=by
  have:=Int.emod_lt_of_pos (y.tdiv (Int.gcd x y)) (b:=(q:Int)) (by omega)
  unfold ofd; omega
 have hiv:=mod_lt32 (a:=ofd x y q ^ (q - 2)) (show 0 < q by omega) hq
 have hS:=Sep.init w
 refine went Tryz.func24 rfl (n:=44) rfl rfl ?_
 refine wseq (wreg (wl rfl (obox [.bool bx,.slice px nx cx,.bool by_,.slice py ny cy] hS rfl rfl (ev (v:=.agg #[.bool bx,.slice px nx cx,.bool by_,.slice py ny cy]) rfl rfl) rfl ?_)))
 clear hS; intro g1 w2 hS
 refine wl rfl (oassign (v:=.int .u32 0) rfl rfl evc ?_)
 refine wl rfl (oassign (v:=.bool false) rfl rfl evc ?_)
 refine wnil (thenN (wseq (wreg (wl rfl (ofieldAddr (g:=g1) (off:=0) 0 rfl rfl (ev rfl rfl) Tryz.runUnderlying30 rfl Tryz.sizeOf28 rfl ?_)))))
 refine wl rfl (oload (vs:=[.bool bx,.slice px nx cx]) aggZ hS 0 rfl rfl (ev rfl rfl) rfl rfl rfl ?_)
 refine wl rfl (ofieldAddr (g:=g1) (off:=0) 2 rfl rfl (ev rfl rfl) Tryz.runUnderlying30 rfl Tryz.sizeOf28 rfl ?_)
 refine wl rfl (oload (vs:=[.bool by_,.slice py ny cy]) aggZ hS 0 rfl rfl (ev rfl rfl) rfl rfl rfl ?_)
 obtain ⟨z1,hz1⟩:∃ z:Int,Hid ((Int.gcd x y:Int) = z):=⟨_,rfl⟩
 have hk1:Wd z1 2097152:=Wd.gcd hx.wd hy.wd hz1 (by omega)
 refine wl rfl (ocall rfl rfl Tryz.call77 rfl (wqgcd ((hx.at hS).mono (by omega)) ((hy.at hS).mono (by omega)) hz1) (args2 (ev rfl rfl) (ev rfl rfl)) ?_)
 rintro _ w3 ⟨_,_,rfl,⟨p1,n1,c1,rfl,rfl⟩,hN⟩
 refine ⟨_,rfl,?_⟩
 replace hS:=hS.news hN; clear hN
 refine wl rfl (oalloc [.bool false,.slice none 0 0] hS rfl rfl Tryz.zeroValue28 rfl ?_)
 clear hS; intro g4 w5 hS
 refine wl rfl (ostore [.bool (ng z1),.slice p1 n1 c1] [.bool (ng z1),.slice p1 n1 c1] Tryz.sizeOf28 hS 0 rfl rfl (ev rfl rfl) (ev (v:=.agg #[.bool (ng z1),.slice p1 n1 c1]) rfl rfl) rfl rfl rfl rfl rfl rfl ?_)
 clear hS; intro w6 hS
 refine wnil (thenN (wseq (wreg (wl rfl (ofieldAddr (g:=g1) (off:=0) 0 rfl rfl (ev rfl rfl) Tryz.runUnderlying30 rfl Tryz.sizeOf28 rfl ?_)))))
 refine wl rfl (oload (vs:=[.bool bx,.slice px nx cx]) aggZ hS 2 rfl rfl (ev rfl rfl) rfl rfl rfl ?_)
 refine wl rfl (oload (vs:=[.bool (ng z1),.slice p1 n1 c1]) aggZ hS 0 rfl rfl (ev rfl rfl) rfl rfl rfl ?_)
 obtain ⟨z2,hz2⟩:∃ z:Int,Hid (Int.tdiv x z1 = z):=⟨_,rfl⟩
 have hk2:Wd z2 2097152:=Wd.tdiv hx.wd hz2
 refine wl rfl (ocall rfl rfl Tryz.call78 rfl (wqexact ((hx.at hS).mono (by omega)) (((hS.sl 1 rfl).zr hk1).mono (by omega)) (by rw [← hz1.out]; exact hg0) (by rw [← hz1.out]; exact Int.tmod_eq_zero_of_dvd (Int.gcd_dvd_left ..)) hz2) (args2 (ev rfl rfl) (ev rfl rfl)) ?_)
 rintro _ w7 ⟨_,_,rfl,⟨p2,n2,c2,rfl,rfl⟩,hN⟩
 refine ⟨_,rfl,?_⟩
 replace hS:=hS.news hN; clear hN
 refine wl rfl (omove (v:=.tuple #[.agg #[.bool (ng z2),.slice p2 n2 c2],.bool true]) rfl rfl (ev rfl rfl) ?_)
 refine wl rfl (oextract (vs:=[.agg #[.bool (ng z2),.slice p2 n2 c2],.bool true]) (v:=.agg #[.bool (ng z2),.slice p2 n2 c2]) rfl rfl (ev rfl rfl) rfl ?_)
 refine wl rfl (oextract (vs:=[.agg #[.bool (ng z2),.slice p2 n2 c2],.bool true]) (v:=.bool true) rfl rfl (ev rfl rfl) rfl ?_)
 refine wl rfl (oalloc [.bool false,.slice none 0 0] hS rfl rfl Tryz.zeroValue28 rfl ?_)
 clear hS; intro g8 w9 hS
 refine wl rfl (ostore [.bool (ng z2),.slice p2 n2 c2] [.bool (ng z2),.slice p2 n2 c2] Tryz.sizeOf28 hS 0 rfl rfl (ev rfl rfl) (ev (v:=.agg #[.bool (ng z2),.slice p2 n2 c2]) rfl rfl) rfl rfl rfl rfl rfl rfl ?_)
 clear hS; intro w10 hS
 refine wl rfl (oassign (v:=.bool true) rfl rfl (ev rfl rfl) ?_)
 refine wnil (thenN (wseq (wreg (wl rfl (ofieldAddr (g:=g1) (off:=0) 2 rfl rfl (ev rfl rfl) Tryz.runUnderlying30 rfl Tryz.sizeOf28 rfl ?_)))))
 refine wl rfl (oload (vs:=[.bool by_,.slice py ny cy]) aggZ hS 4 rfl rfl (ev rfl rfl) rfl rfl rfl ?_)
 refine wl rfl (oload (vs:=[.bool (ng z1),.slice p1 n1 c1]) aggZ hS 2 rfl rfl (ev rfl rfl) rfl rfl rfl ?_)
 obtain ⟨z3,hz3⟩:∃ z:Int,Hid (Int.tdiv y z1 = z):=⟨_,rfl⟩
 have hk3:Wd z3 2097152:=Wd.tdiv hy.wd hz3
 refine wl rfl (ocall rfl rfl Tryz.call78 rfl (wqexact ((hy.at hS).mono (by omega)) (((hS.sl 3 rfl).zr hk1).mono (by omega)) (by rw [← hz1.out]; exact hg0) (by rw [← hz1.out]; exact Int.tmod_eq_zero_of_dvd (Int.gcd_dvd_right ..)) hz3) (args2 (ev rfl rfl) (ev rfl rfl)) ?_)
 rintro _ w11 ⟨_,_,rfl,⟨p3,n3,c3,rfl,rfl⟩,hN⟩
 refine ⟨_,rfl,?_⟩
 replace hS:=hS.news hN; clear hN
 refine wl rfl (omove (v:=.tuple #[.agg #[.bool (ng z3),.slice p3 n3 c3],.bool true]) rfl rfl (ev rfl rfl) ?_)
 refine wl rfl (oextract (vs:=[.agg #[.bool (ng z3),.slice p3 n3 c3],.bool true]) (v:=.agg #[.bool (ng z3),.slice p3 n3 c3]) rfl rfl (ev rfl rfl) rfl ?_)
 refine wl rfl (oextract (vs:=[.agg #[.bool (ng z3),.slice p3 n3 c3],.bool true]) (v:=.bool true) rfl rfl (ev rfl rfl) rfl ?_)
 refine wl rfl (oalloc [.bool false,.slice none 0 0] hS rfl rfl Tryz.zeroValue28 rfl ?_)
 clear hS; intro g12 w13 hS
 refine wl rfl (ostore [.bool (ng z3),.slice p3 n3 c3] [.bool (ng z3),.slice p3 n3 c3] Tryz.sizeOf28 hS 0 rfl rfl (ev rfl rfl) (ev (v:=.agg #[.bool (ng z3),.slice p3 n3 c3]) rfl rfl) rfl rfl rfl rfl rfl rfl ?_)
 clear hS; intro w14 hS
 refine wl rfl (oassign (v:=.bool true) rfl rfl (ev rfl rfl) ?_)
 refine wnil (thenN (wseq (wreg (wl rfl (oload (vs:=[.bool (ng z3),.slice p3 n3 c3]) aggZ hS 0 rfl rfl (ev rfl rfl) rfl rfl rfl ?_)))))
 refine wl rfl (omove (v:=.int .u32 (q:Int)) rfl rfl (ev rfl rfl) ?_)
 refine wl rfl (ocall rfl rfl Tryz.call79 rfl ((show Calls _ _ _ _ (Ret (Is (.int .u32 ((ofd x y q:Nat):Int))) _) from by rw [show ofd x y q = (z3 % (q:Int)).toNat from by rw [← hz3.out, ← hz1.out]; rfl]; exact wsof4 (((hS.sl 1 rfl).zr hk3).mono (by omega)) hq (by omega))) (args2 (ev rfl rfl) (ev rfl rfl)) ?_)
 rintro _ w15 ⟨_,_,rfl,⟨rfl,rfl⟩,hN⟩
 refine ⟨_,rfl,?_⟩
 replace hS:=hS.news hN; clear hN
 refine wl rfl (oassign (v:=.int .u32 (((ofd x y q:Nat):Int))) rfl rfl (ev rfl rfl) ?_)
 refine wnil (thenN (wseq (wseq (wreg (wl rfl (omove (v:=.int .u32 (((ofd x y q:Nat):Int))) rfl rfl (ev rfl rfl) ?_))))))
 refine wl rfl (obin (u:=.int .u32 (((ofd x y q:Nat):Int))) (v:=.int .u32 0) (z:=.bool false) rfl rfl (ev rfl rfl) evc (bin_eql (eqF (by omega))) ?_)
 refine wnil (thenN ?_)
 refine wF (ev rfl rfl) ?_
 refine wskip (thenN (wseq (wreg (wl rfl (oload (vs:=[.bool (ng z2),.slice p2 n2 c2]) aggZ hS 2 rfl rfl (ev rfl rfl) rfl rfl rfl ?_)))))
 refine wl rfl (omove (v:=.int .u32 (q:Int)) rfl rfl (ev rfl rfl) ?_)
 obtain ⟨N,hN⟩:∃ N,Hid ((z2 % ((q:Nat):Int)).toNat = N):=⟨_,rfl⟩
 have hNq:N < 4294967296:=by have:=Int.emod_lt_of_pos z2 (b:=(q:Int)) (by omega); have:=hN.out; omega
 refine wl rfl (ocall rfl rfl Tryz.call79 rfl ((show Calls _ _ _ _ (Ret (Is (.int .u32 (N:Int))) _) from by rw [show N = (z2 % (q:Int)).toNat from hN.out.symm]; exact wsof4 (((hS.sl 3 rfl).zr hk2).mono (by omega)) hq (by omega))) (args2 (ev rfl rfl) (ev rfl rfl)) ?_)
 rintro _ w16 ⟨_,_,rfl,⟨rfl,rfl⟩,hN⟩
 refine ⟨_,rfl,?_⟩
 replace hS:=hS.news hN; clear hN
 refine wl rfl (omove (v:=.int .u32 (((ofd x y q:Nat):Int))) rfl rfl (ev rfl rfl) ?_)
 refine wl rfl (omove (v:=.int .u32 (q:Int)) rfl rfl (ev rfl rfl) ?_)
 refine wl rfl (ocall rfl rfl Tryz.call81 rfl (wsinv hp1 hq (by omega)) (args2 (ev rfl rfl) (ev rfl rfl)) ?_)
 rintro _ w17 ⟨_,_,rfl,⟨rfl,rfl⟩,hN⟩
 refine ⟨_,rfl,?_⟩
 replace hS:=hS.news hN; clear hN
 refine wl rfl (omove (v:=.int .u32 (q:Int)) rfl rfl (ev rfl rfl) ?_)
 refine wl rfl (ocall rfl rfl Tryz.call80 rfl ((show Calls _ _ _ _ (Ret (Is (.int .u32 ((ofr x y q:Nat):Int))) _) from by rw [show ofr x y q = N * (ofd x y q ^ (q - 2) % q) % q from by rw [← hN.out, ← hz2.out, ← hz1.out]; rfl]; exact wsmul hNq hiv (show 0 < q by omega) hq)) (args3 (ev rfl rfl) (ev rfl rfl) (ev rfl rfl)) ?_)
 rintro _ w18 ⟨_,_,rfl,⟨rfl,rfl⟩,hN⟩
 refine ⟨_,rfl,?_⟩
 replace hS:=hS.news hN; clear hN
 refine wl rfl (oassign (v:=.int .u32 (((ofr x y q:Nat):Int))) rfl rfl (ev rfl rfl) ?_)
 refine wl rfl (oassign (v:=.bool true) rfl rfl evc ?_)
 refine wnil (thenN ?_)
 refine wleave ?_
 refine wret2 Tryz.results24 (tellT (v:=.int .u32 (((ofr x y q:Nat):Int))) rfl rfl) (tellT (v:=.bool true) rfl rfl) ?_
 exact ⟨_,_,rfl,isI,hS.new0⟩
theorem PFr_32 {x y:Int} {us:List Nat} (hl:Lims us) (h0:∀ q ∈ us,0 < q):∀ z ∈ PFr x y us,z.1 < 4294967296 ∧ z.2 < 4294967296:=fun z hz => by
  obtain ⟨q,hq,rfl⟩:=List.mem_map.1 hz
  obtain ⟨i,hi,rfl⟩:=List.getElem_of_mem hq
  have h1:=hl i hi
  rw [nd_get hi] at h1
  exact ⟨mod_lt32 (h0 _ hq) h1,h1⟩
theorem crtFractions_walk0 {bA bB:Bool} {qA qB pl:Option Addr} {nA kA nB kB nl cl bd:Nat} {x y:Int} {us:List Nat} {w:World} (ht:Tb w) (hA:Zr w bA qA nA kA x 2097152) (hB:Zr w bB qB nB kB y 2097152) (hl:Sl w pl nl cl us) (hnl:nl ≤ 1048576) (hbd:bd < 4294967296) :
  Calls Tryz.prog 6 #[.agg #[.bool bA,.slice qA nA kA,.bool bB,.slice qB nB kB],.slice pl nl cl,.int .u32 ((bd:Nat):Int)] w (Ret (Is (.bool true)) w):=by
 have hS:=Sep.init w
 refine went Tryz.func6 rfl (n:=167) rfl rfl ?_
 refine wseq (wreg (wl rfl (obox [.bool bA,.slice qA nA kA,.bool bB,.slice qB nB kB] hS rfl rfl (ev (v:=.agg #[.bool bA,.slice qA nA kA,.bool bB,.slice qB nB kB]) rfl rfl) rfl ?_)))
 clear hS; intro g1 w2 hS
 refine wl rfl (oassign (v:=.bool false) rfl rfl evc ?_)
 refine wnil (thenN (wseq (wreg (wl rfl (oassign (v:=.slice none 0 0) rfl rfl evc ?_)))))
 refine wnil (thenN (wseq (wseq (wreg (wl rfl (omove (v:=.slice pl nl cl) rfl rfl (ev rfl rfl) ?_))))))
 refine wl rfl (olen rfl rfl rfl Tryz.runUnderlying25 (p:=pl) (k:=nl) (m:=cl) (ev rfl rfl) ?_)
 refine wl rfl (omove (v:=.int .i64 0) rfl rfl evc ?_)
 refine wnil (thenN (wblock ?_))
 replace hS:=hS.nilLst 42 2
 refine wloop (σ := Nat) (fun i a9 w' => ∃ (fb:Nat → Value) (pB:Option Addr) (cB:Nat),a9 = act 167 (sets fb [(2,.int .u32 (bd:Int)),(3,.pointer (some ⟨g1,0,none⟩)),(7,.slice pB i cB),(23,.slice pl nl cl),(24,.int .i64 (nl:Int)),(25,.int .i64 (i:Int))]) ∧ Sep w [.lst 42 2 pB i cB (rpE (PFr x y (us.take i))),.blk g1 [.bool bA,.slice qA nA kA,.bool bB,.slice qB nB kB] 30] w' ∧ (i ≤ nl) ∧ (∀ q ∈ us.take i,MR.Pr q ∧ ofd x y q ≠ 0) ∧ (i = 0 ∨ y ≠ 0)) (fun i => nl - i) (0) ⟨_,none,0,act_sets (l:=[(2,.int .u32 (bd:Int)),(3,.pointer (some ⟨g1,0,none⟩)),(7,.slice none 0 0),(23,.slice pl nl cl),(24,.int .i64 (nl:Int)),(25,.int .i64 0)]) ⟨rfl,rfl,rfl,rfl,rfl,rfl,trivial⟩,hS,Nat.zero_le _,by simp,.inl rfl⟩ ?_
 clear hS; rintro i _ w3 ⟨fb,pB,cB,rfl,hS,hi,hgd,hyi⟩
 refine wseq (wreg ?_)
 by_cases hlt:i < nl
 ·
  have hlen9:=hl.len
  obtain ⟨b,off,hpx,hcx⟩:=hl.el hlt
  have hq32:=hl.lim1 i
  obtain ⟨q,hq⟩:∃ q,nd us i = q:=⟨_,rfl⟩
  rw [hq] at hcx hq32
  have hqi:us[i]? = some q:=by rw [List.getElem?_eq_getElem (by omega), ← hq,nd_get (by omega)]
  refine wl rfl (obin (u:=.int .i64 (i:Int)) (v:=.int .i64 (nl:Int)) (z:=.bool true) rfl rfl (ev rfl rfl) (ev rfl rfl) (bin_lss (decide_eq_true (by omega))) ?_)
  refine wnil (thenN (wseq ?_))
  refine wT (ev rfl rfl) ?_
  refine wskip (thenN (wseq (wblock (wseq (wreg (wl rfl (oindex (p:=pl) (g:=b) (off:=off) (m:=nl) (k:=i) (j:=(off + i * 1)) rfl rfl Tryz.runUnderlying25 Tryz.sizeOf40 (ev rfl rfl) (hpx) (ev rfl rfl) (hlt) rfl ?_)))))))
  refine wl rfl (oloadc (v:=.int .u32 (q:Int)) one32 rfl rfl (ev (v:=.pointer (some ⟨b,(off + i * 1),none⟩)) rfl rfl) (hS.cellAt (hcx 0 _ rfl)) ?_)
  refine wl rfl (oassign (v:=.int .u32 (q:Int)) rfl rfl (ev rfl rfl) ?_)
  refine wnil (thenN (wseq (wseq (wreg (wl rfl (oload (vs:=[.bool bA,.slice qA nA kA,.bool bB,.slice qB nB kB]) aggR hS 1 rfl rfl (ev rfl rfl) rfl rfl rfl ?_))))))
  by_cases hy0:y = 0
  ·
   refine wl rfl (ocall rfl rfl Tryz.call22 rfl (wsmay0 ((hB.at hS).mono (by omega)) (hy0)) (args1 (ev rfl rfl)) ?_)
   rintro _ w4 ⟨_,_,rfl,⟨rfl,rfl⟩,hN⟩
   refine ⟨_,rfl,?_⟩
   replace hS:=hS.news hN; clear hN
   refine wl rfl (onot (b:=false) rfl rfl (ev rfl rfl) ?_)
   refine wl rfl (omove (v:=.bool true) rfl rfl (ev rfl rfl) ?_)
   refine wlOff (e:=32) (d:=33) (b':=true) rfl rfl rfl rfl rfl rfl ?_
   refine wlOff (e:=32) (d:=34) (b':=true) rfl rfl rfl rfl rfl rfl ?_
   refine wlOff (e:=32) (d:=35) (b':=true) rfl rfl rfl rfl rfl rfl ?_
   refine wl rfl (opick (b:=true) (v:=.bool true) rfl rfl (ev rfl rfl) evc ?_)
   refine wnil (thenN ?_)
   refine wT (ev rfl rfl) ?_
   refine wseq (wreg (wl rfl (ocall rfl rfl Tryz.call14 rfl (wlawake6 (ht.at hS)) (args0 ) ?_)))
   rintro _ w5 ⟨_,_,rfl,⟨rfl,rfl⟩,hN⟩
   refine ⟨_,rfl,?_⟩
   replace hS:=hS.news hN; clear hN
   refine wl rfl (oassign (v:=.bool true) rfl rfl (ev rfl rfl) ?_)
   refine wnil (thenN ?_)
   refine wleave ?_
   refine thenR ?_
   refine blkR ?_
   refine thenR ?_
   refine thenR ?_
   refine blkR ?_
   refine thenR ?_
   refine wret1 Tryz.results6 (tellT (v:=.bool true) rfl rfl) ?_
   exact ⟨_,_,rfl,isI,hS.new0⟩
  ·
   refine wl rfl (ocall rfl rfl Tryz.call22 rfl (wsmay ((hB.at hS).mono (by omega)) (hy0)) (args1 (ev rfl rfl)) ?_)
   rintro _ w4 ⟨_,_,rfl,⟨rfl,rfl⟩,hN⟩
   refine ⟨_,rfl,?_⟩
   replace hS:=hS.news hN; clear hN
   refine wl rfl (onot (b:=true) rfl rfl (ev rfl rfl) ?_)
   refine wl rfl (omove (v:=.bool false) rfl rfl (ev rfl rfl) ?_)
   refine wlOn (e:=32) rfl rfl rfl rfl (omove (v:=.int .u32 (q:Int)) rfl rfl (ev rfl rfl) ?_)
   by_cases hp:MR.Pr q
   ·
    refine wlOn (e:=32) rfl rfl rfl rfl (ocall rfl rfl Tryz.call23 rfl (wsis (b:=true) hq32 ⟨fun _ => hp,fun _ => rfl⟩) (args1 (ev rfl rfl)) ?_)
    rintro _ w5 ⟨_,_,rfl,⟨rfl,rfl⟩,hN⟩
    refine ⟨_,rfl,?_⟩
    replace hS:=hS.news hN; clear hN
    refine wlOn (e:=32) rfl rfl rfl rfl (onot (b:=true) rfl rfl (ev rfl rfl) ?_)
    refine wl rfl (opick (b:=false) (v:=.bool false) rfl rfl (ev rfl rfl) (ev rfl rfl) ?_)
    refine wnil (thenN ?_)
    refine wF (ev rfl rfl) ?_
    refine wskip (thenN (wseq (wreg (wl rfl (oload (vs:=[.bool bA,.slice qA nA kA,.bool bB,.slice qB nB kB]) aggR hS 1 rfl rfl (ev rfl rfl) rfl rfl rfl ?_)))))
    refine wl rfl (omove (v:=.int .u32 (q:Int)) rfl rfl (ev rfl rfl) ?_)
    by_cases hd0:ofd x y q = 0
    ·
     refine wl rfl (ocall rfl rfl Tryz.call24 rfl (wsofrat0 ((hA.at hS)) ((hB.at hS)) hy0 hp hq32 hd0) (args2 (ev rfl rfl) (ev rfl rfl)) ?_)
     rintro _ w6 ⟨_,_,rfl,⟨rfl,rfl⟩,hN⟩
     refine ⟨_,rfl,?_⟩
     replace hS:=hS.news hN; clear hN
     refine wl rfl (omove (v:=.tuple #[.int .u32 0,.bool false]) rfl rfl (ev rfl rfl) ?_)
     refine wl rfl (oextract (vs:=[.int .u32 0,.bool false]) (v:=.int .u32 0) rfl rfl (ev rfl rfl) rfl ?_)
     refine wl rfl (oextract (vs:=[.int .u32 0,.bool false]) (v:=.bool false) rfl rfl (ev rfl rfl) rfl ?_)
     refine wl rfl (oassign (v:=.int .u32 0) rfl rfl (ev rfl rfl) ?_)
     refine wl rfl (oassign (v:=.bool false) rfl rfl (ev rfl rfl) ?_)
     refine wnil (thenN (wseq (wseq (wreg (wl rfl (omove (v:=.bool false) rfl rfl (ev rfl rfl) ?_))))))
     refine wl rfl (onot (b:=false) rfl rfl (ev rfl rfl) ?_)
     refine wnil (thenN ?_)
     refine wT (ev rfl rfl) ?_
     refine wseq (wreg (wl rfl (ocall rfl rfl Tryz.call14 rfl (wlawake6 (ht.at hS)) (args0 ) ?_)))
     rintro _ w7 ⟨_,_,rfl,⟨rfl,rfl⟩,hN⟩
     refine ⟨_,rfl,?_⟩
     replace hS:=hS.news hN; clear hN
     refine wl rfl (oassign (v:=.bool true) rfl rfl (ev rfl rfl) ?_)
     refine wnil (thenN ?_)
     refine wleave ?_
     refine thenR ?_
     refine blkR ?_
     refine thenR ?_
     refine thenR ?_
     refine blkR ?_
     refine thenR ?_
     refine wret1 Tryz.results6 (tellT (v:=.bool true) rfl rfl) ?_
     exact ⟨_,_,rfl,isI,hS.new0⟩
    ·
     refine wl rfl (ocall rfl rfl Tryz.call24 rfl (wsofrat ((hA.at hS)) ((hB.at hS)) hy0 hp hq32 hd0) (args2 (ev rfl rfl) (ev rfl rfl)) ?_)
     rintro _ w6 ⟨_,_,rfl,⟨rfl,rfl⟩,hN⟩
     refine ⟨_,rfl,?_⟩
     replace hS:=hS.news hN; clear hN
     refine wl rfl (omove (v:=.tuple #[.int .u32 (((ofr x y q:Nat):Int)),.bool true]) rfl rfl (ev rfl rfl) ?_)
     refine wl rfl (oextract (vs:=[.int .u32 (((ofr x y q:Nat):Int)),.bool true]) (v:=.int .u32 (((ofr x y q:Nat):Int))) rfl rfl (ev rfl rfl) rfl ?_)
     refine wl rfl (oextract (vs:=[.int .u32 (((ofr x y q:Nat):Int)),.bool true]) (v:=.bool true) rfl rfl (ev rfl rfl) rfl ?_)
     refine wl rfl (oassign (v:=.int .u32 (((ofr x y q:Nat):Int))) rfl rfl (ev rfl rfl) ?_)
     refine wl rfl (oassign (v:=.bool true) rfl rfl (ev rfl rfl) ?_)
     refine wnil (thenN (wseq (wseq (wreg (wl rfl (omove (v:=.bool true) rfl rfl (ev rfl rfl) ?_))))))
     refine wl rfl (onot (b:=true) rfl rfl (ev rfl rfl) ?_)
     refine wnil (thenN ?_)
     refine wF (ev rfl rfl) ?_
     refine wskip (thenN (wreg (wl rfl (omove (v:=.slice pB i cB) rfl rfl (ev rfl rfl) ?_))))
     refine wl rfl (omove (v:=.int .u32 (((ofr x y q:Nat):Int))) rfl rfl (ev rfl rfl) ?_)
     refine wl rfl (omove (v:=.int .u32 (q:Int)) rfl rfl (ev rfl rfl) ?_)
     refine wl rfl (obuild (ps:=#[(0,.int .u32 (((ofr x y q:Nat):Int))),(1,.int .u32 (q:Int))]) (v:=.agg #[.int .u32 (((ofr x y q:Nat):Int)),.int .u32 (q:Int)]) rfl rfl (parts2 (ev (v:=.int .u32 (((ofr x y q:Nat):Int))) rfl rfl) (ev (v:=.int .u32 (q:Int)) rfl rfl)) (fun w => by simp [go_sem,Instr.build,Instr.fill]) ?_)
     refine wl rfl (obslice (ps:=#[(0,.agg #[.int .u32 (((ofr x y q:Nat):Int)),.int .u32 (q:Int)])]) (z:=.agg #[.int .u32 0,.int .u32 0]) [.int .u32 (((ofr x y q:Nat):Int)),.int .u32 (q:Int)] hS rfl rfl Tryz.runUnderlying37 Tryz.sizeOf42 Tryz.zeroValue42 (parts1 (ev (v:=.agg #[.int .u32 (((ofr x y q:Nat):Int)),.int .u32 (q:Int)]) rfl rfl)) rfl (by decide) fill2_1 ?_)
     clear hS; intro g7 w8 hS
     obtain hS:=(show Sep w [.lst 42 2 pB i cB (rpE (PFr x y (us.take i))),.blk g7 [.int .u32 (((ofr x y q:Nat):Int)),.int .u32 (((q:Nat):Int))] 42,.blk g1 [.bool bA,.slice qA nA kA,.bool bB,.slice qB nB kB] 30] w8 from hS.pick [1,0,2] (by decide) rfl)
     refine wl rfl (oappendL (p:=pB) (m:=i) (c:=cB) (g2:=g7) (c2:=1) (off:=0) [.int .u32 (((ofr x y q:Nat):Int)),.int .u32 (q:Int)] [] hS rfl rfl Tryz.underlying37 infoRest rfl (by decide) (ev (v:=.slice pB i cB) rfl rfl) (ev (v:=.slice (some ⟨g7,0,none⟩) 1 1) rfl rfl) (fun j v hj => by rw [Nat.zero_add]; exact (blk_cell (hS.blkAt 1 rfl) j).trans hj) rfl rfl rfl (by omega) (by omega) ?_)
     clear hS; intro p10 c11 w9 hS
     refine wl rfl (oassign (v:=.slice p10 ((i + 1)) c11) rfl rfl (ev rfl rfl) ?_)
     refine wnil (blkN (thenN (wreg (wl rfl (obin (u:=.int .i64 (i:Int)) (v:=.int .i64 1) (z:=.int .i64 (((i + 1:Nat):Int))) rfl rfl (ev rfl rfl) evc (bin_add (wrap_i64 (by omega) (by omega))) ?_)))))
     refine wl rfl (omove (v:=.int .i64 (((i + 1:Nat):Int))) rfl rfl (ev rfl rfl) ?_)
     refine wnil (thenN ?_)
     rw [← rpE_app (PFr x y (us.take i)) (ofr x y q,q), ← PFr_app,show us.take i ++ [q] = us.take (i + 1) from (take_next hqi).symm] at hS
     exact ⟨(i + 1),⟨_,_,_,act_sets (l:=[(2,.int .u32 (bd:Int)),(3,.pointer (some ⟨g1,0,none⟩)),(7,.slice p10 ((i + 1)) c11),(23,.slice pl nl cl),(24,.int .i64 (nl:Int)),(25,.int .i64 (((i + 1:Nat):Int)))]) ⟨rfl,rfl,rfl,rfl,rfl,rfl,trivial⟩,hS.pick [0,2] (by decide) rfl,by omega,by rw [take_next hqi]; intro u hu; exact (List.mem_append.1 hu).elim (hgd u) (fun h => by rw [List.mem_singleton.1 h]; exact ⟨hp,hd0⟩),.inr hy0⟩,by omega⟩
   ·
    refine wlOn (e:=32) rfl rfl rfl rfl (ocall rfl rfl Tryz.call23 rfl (wsis (b:=false) hq32 ⟨(fun h => by cases h),(fun h => absurd h hp)⟩) (args1 (ev rfl rfl)) ?_)
    rintro _ w5 ⟨_,_,rfl,⟨rfl,rfl⟩,hN⟩
    refine ⟨_,rfl,?_⟩
    replace hS:=hS.news hN; clear hN
    refine wlOn (e:=32) rfl rfl rfl rfl (onot (b:=false) rfl rfl (ev rfl rfl) ?_)
    refine wl rfl (opick (b:=false) (v:=.bool true) rfl rfl (ev rfl rfl) (ev rfl rfl) ?_)
    refine wnil (thenN ?_)
    refine wT (ev rfl rfl) ?_
    refine wseq (wreg (wl rfl (ocall rfl rfl Tryz.call14 rfl (wlawake6 (ht.at hS)) (args0 ) ?_)))
    rintro _ w6 ⟨_,_,rfl,⟨rfl,rfl⟩,hN⟩
    refine ⟨_,rfl,?_⟩
    replace hS:=hS.news hN; clear hN
    refine wl rfl (oassign (v:=.bool true) rfl rfl (ev rfl rfl) ?_)
    refine wnil (thenN ?_)
    refine wleave ?_
    refine thenR ?_
    refine blkR ?_
    refine thenR ?_
    refine thenR ?_
    refine blkR ?_
    refine thenR ?_
    refine wret1 Tryz.results6 (tellT (v:=.bool true) rfl rfl) ?_
    exact ⟨_,_,rfl,isI,hS.new0⟩
 ·
  refine wl rfl (obin (u:=.int .i64 (i:Int)) (v:=.int .i64 (nl:Int)) (z:=.bool false) rfl rfl (ev rfl rfl) (ev rfl rfl) (bin_lss (decide_eq_false (by omega))) ?_)
  refine wnil (thenN (wseq ?_))
  refine wF (ev rfl rfl) ?_
  refine wexit ?_
  refine thenE ?_
  refine thenE ?_
  refine blkE ?_
  refine thenN (wseq (wreg (wl rfl (omove (v:=.slice pB i cB) rfl rfl (ev rfl rfl) ?_))))
  obtain ⟨L,hL⟩:∃ L,Hid (PFr x y us = L):=⟨_,rfl⟩
  have hTi:us.take i = us:=List.take_of_length_le (by have:=hl.len; omega)
  rw [hTi] at hgd
  rw [hTi,hL.out] at hS
  have hLn:L.length = i:=by rw [← hL.out,PFr_len]; have:=hl.len; omega
  have h32:∀ x ∈ L,x.1 < 4294967296 ∧ x.2 < 4294967296:=by rw [← hL.out]; exact PFr_32 hl.lims (fun q hq => by have:=(hgd q hq).1.1; omega)
  by_cases hc:code [] L = 0
  ·
   have hg:=code_gd.1 hc
   have hok:=okl_of h32 (by omega) hg
   have hwV:=hok.wV
   have hwM:=hok.wM
   have hlt9:=cv_lt hg
   have hm0:(((cv L).2:Nat):Int) ≠ 0:=by omega
   refine wl rfl (ocall rfl rfl Tryz.call18 rfl (wcof (ht.at hS) (hS.rsl 0 rfl hLn) h32 (by omega) hg) (args1 (ev rfl rfl)) ?_)
   rintro _ w4 ⟨_,_,rfl,⟨pV,nV,cV,pM,nM,cM,rfl,rfl⟩,hN⟩
   refine ⟨_,rfl,?_⟩
   replace hS:=hS.news hN; clear hN
   refine wl rfl (omove (v:=.tuple #[.slice pV nV cV,.slice pM nM cM,.int .i64 0]) rfl rfl (ev rfl rfl) ?_)
   refine wl rfl (oextract (vs:=[.slice pV nV cV,.slice pM nM cM,.int .i64 0]) (v:=.slice pV nV cV) rfl rfl (ev rfl rfl) rfl ?_)
   refine wl rfl (oextract (vs:=[.slice pV nV cV,.slice pM nM cM,.int .i64 0]) (v:=.slice pM nM cM) rfl rfl (ev rfl rfl) rfl ?_)
   refine wl rfl (oextract (vs:=[.slice pV nV cV,.slice pM nM cM,.int .i64 0]) (v:=.int .i64 0) rfl rfl (ev rfl rfl) rfl ?_)
   refine wl rfl (oassign (v:=.slice pV nV cV) rfl rfl (ev rfl rfl) ?_)
   refine wl rfl (oassign (v:=.slice pM nM cM) rfl rfl (ev rfl rfl) ?_)
   refine wl rfl (oassign (v:=.int .i64 0) rfl rfl (ev rfl rfl) ?_)
   refine wnil (thenN (wseq (wseq (wreg (wl rfl (omove (v:=.int .i64 0) rfl rfl (ev rfl rfl) ?_))))))
   refine wl rfl (ocall rfl rfl Tryz.call13 rfl (wlnum6) (args1 (ev rfl rfl)) ?_)
   rintro _ w5 ⟨_,_,rfl,⟨rfl,rfl⟩,hN⟩
   refine ⟨_,rfl,?_⟩
   replace hS:=hS.news hN; clear hN
   refine wl rfl (obin (u:=.int .i64 0) (v:=.int .i64 0) (z:=.bool false) rfl rfl (ev rfl rfl) evc (bin_neq (by decide)) ?_)
   refine wl rfl (omove (v:=.bool false) rfl rfl (ev rfl rfl) ?_)
   refine wlOn (e:=63) rfl rfl rfl rfl (omove (v:=.slice pB i cB) rfl rfl (ev rfl rfl) ?_)
   refine wlOn (e:=63) rfl rfl rfl rfl (olen rfl rfl rfl Tryz.runUnderlying37 (p:=pB) (k:=i) (m:=cB) (ev rfl rfl) ?_)
   by_cases hi0:i = 0
   ·
    refine wlOn (e:=63) rfl rfl rfl rfl (obin (u:=.int .i64 (i:Int)) (v:=.int .i64 0) (z:=.bool true) rfl rfl (ev rfl rfl) evc (bin_eql (eqT (by omega))) ?_)
    refine wl rfl (opick (b:=false) (v:=.bool true) rfl rfl (ev rfl rfl) (ev rfl rfl) ?_)
    refine wnil (thenN ?_)
    refine wT (ev rfl rfl) ?_
    refine wseq (wreg (wl rfl (ocall rfl rfl Tryz.call14 rfl (wlawake6 (ht.at hS)) (args0 ) ?_)))
    rintro _ w6 ⟨_,_,rfl,⟨rfl,rfl⟩,hN⟩
    refine ⟨_,rfl,?_⟩
    replace hS:=hS.news hN; clear hN
    refine wl rfl (oassign (v:=.bool true) rfl rfl (ev rfl rfl) ?_)
    refine wnil (thenN ?_)
    refine wleave ?_
    refine thenR ?_
    refine wret1 Tryz.results6 (tellT (v:=.bool true) rfl rfl) ?_
    exact ⟨_,_,rfl,isI,hS.new0⟩
   ·
    refine wlOn (e:=63) rfl rfl rfl rfl (obin (u:=.int .i64 (i:Int)) (v:=.int .i64 0) (z:=.bool false) rfl rfl (ev rfl rfl) evc (bin_eql (eqF (by omega))) ?_)
    refine wl rfl (opick (b:=false) (v:=.bool false) rfl rfl (ev rfl rfl) (ev rfl rfl) ?_)
    refine wnil (thenN ?_)
    refine wF (ev rfl rfl) ?_
    refine wskip (thenN (wseq (wreg (wl rfl (omove (v:=.int .u32 (bd:Int)) rfl rfl (ev rfl rfl) ?_)))))
    have hy0:y ≠ 0:=hyi.resolve_left hi0
    refine wl rfl (oconvert (u:=.int .u32 (bd:Int)) (v:=.int .u64 (bd:Int)) rfl rfl (ev rfl rfl) (convert_int Tryz.runUnderlying40 Tryz.runUnderlying52 (wrap_u64 (by omega) (by omega))) ?_)
    have hkx1:ll bd ≤ 2:=Nd.u64 (by omega)
    refine wl rfl (ocall rfl rfl Tryz.call25 rfl (wmof (x:=bd) (by omega)) (args1 (ev rfl rfl)) ?_)
    rintro _ w6 ⟨_,_,rfl,⟨p1,n1,c1,rfl,rfl⟩,hN⟩
    refine ⟨_,rfl,?_⟩
    replace hS:=hS.news hN; clear hN
    refine wl rfl (oassign (v:=.slice p1 n1 c1) rfl rfl (ev rfl rfl) ?_)
    refine wnil (thenN (wseq (wreg (wl rfl (omove (v:=.slice pV nV cV) rfl rfl (ev rfl rfl) ?_)))))
    refine wl rfl (omove (v:=.slice pM nM cM) rfl rfl (ev rfl rfl) ?_)
    refine wl rfl (omove (v:=.slice p1 n1 c1) rfl rfl (ev rfl rfl) ?_)
    by_cases hbm:bd * bd + bd * bd < (cv L).2
    ·
     by_cases h0:rce (cv L).1 (cv L).2 bd = 0
     ·
      obtain ⟨ra1,ra2,ra3⟩:=rc_all h0 hbm
      have hkra:Wd (rcx (cv L).1 (cv L).2 bd) 1:=Nd.u32 (by omega)
      have hkrb:Wd (rcy (cv L).1 (cv L).2 bd) 1:=Nd.u32 (by omega)
      refine wl rfl (ocall rfl rfl Tryz.call15 rfl (wcrecon (((hS.slm 1 rfl).nr hwV).mono (by omega)) (((hS.slm 2 rfl).nr hwM).mono (by omega)) (((hS.sl 0 rfl).nr hkx1).mono (by omega)) h0) (args3 (ev rfl rfl) (ev rfl rfl) (ev rfl rfl)) ?_)
      rintro _ w7 ⟨_,_,rfl,⟨pra,nra,cra,prb,nrb,crb,rfl,rfl⟩,hN⟩
      refine ⟨_,rfl,?_⟩
      replace hS:=hS.news hN; clear hN
      refine wl rfl (omove (v:=.tuple #[.agg #[.bool (ng (rcx (cv L).1 (cv L).2 bd)),.slice pra nra cra,.bool (ng (rcy (cv L).1 (cv L).2 bd)),.slice prb nrb crb],.int .i64 0]) rfl rfl (ev rfl rfl) ?_)
      refine wl rfl (oextract (vs:=[.agg #[.bool (ng (rcx (cv L).1 (cv L).2 bd)),.slice pra nra cra,.bool (ng (rcy (cv L).1 (cv L).2 bd)),.slice prb nrb crb],.int .i64 0]) (v:=.agg #[.bool (ng (rcx (cv L).1 (cv L).2 bd)),.slice pra nra cra,.bool (ng (rcy (cv L).1 (cv L).2 bd)),.slice prb nrb crb]) rfl rfl (ev rfl rfl) rfl ?_)
      refine wl rfl (oextract (vs:=[.agg #[.bool (ng (rcx (cv L).1 (cv L).2 bd)),.slice pra nra cra,.bool (ng (rcy (cv L).1 (cv L).2 bd)),.slice prb nrb crb],.int .i64 0]) (v:=.int .i64 0) rfl rfl (ev rfl rfl) rfl ?_)
      refine wl rfl (oalloc [.bool false,.slice none 0 0,.bool false,.slice none 0 0] hS rfl rfl Tryz.zeroValue30 rfl ?_)
      clear hS; intro g8 w9 hS
      refine wl rfl (ostore [.bool (ng (rcx (cv L).1 (cv L).2 bd)),.slice pra nra cra,.bool (ng (rcy (cv L).1 (cv L).2 bd)),.slice prb nrb crb] [.bool (ng (rcx (cv L).1 (cv L).2 bd)),.slice pra nra cra,.bool (ng (rcy (cv L).1 (cv L).2 bd)),.slice prb nrb crb] Tryz.sizeOf30 hS 0 rfl rfl (ev rfl rfl) (ev (v:=.agg #[.bool (ng (rcx (cv L).1 (cv L).2 bd)),.slice pra nra cra,.bool (ng (rcy (cv L).1 (cv L).2 bd)),.slice prb nrb crb]) rfl rfl) rfl rfl rfl rfl rfl rfl ?_)
      clear hS; intro w10 hS
      refine wl rfl (oassign (v:=.int .i64 0) rfl rfl (ev rfl rfl) ?_)
      refine wnil (thenN (wseq (wreg (wl rfl (omove (v:=.slice p1 n1 c1) rfl rfl (ev rfl rfl) ?_)))))
      refine wl rfl (omove (v:=.slice p1 n1 c1) rfl rfl (ev rfl rfl) ?_)
      obtain ⟨x2,hx2⟩:∃ x:Nat,Hid (bd * bd = x):=⟨_,rfl⟩
      have hkx2:ll x2 ≤ 4:=Nd.mul hkx1 hkx1 hx2 (by omega)
      refine wl rfl (ocall rfl rfl Tryz.call26 rfl (wmmul (((hS.sl 3 rfl).nr hkx1).mono (by omega)) (((hS.sl 3 rfl).nr hkx1).mono (by omega)) hx2) (args2 (ev rfl rfl) (ev rfl rfl)) ?_)
      rintro _ w11 ⟨_,_,rfl,⟨p2,n2,c2,rfl,rfl⟩,hN⟩
      refine ⟨_,rfl,?_⟩
      replace hS:=hS.news hN; clear hN
      refine wl rfl (oassign (v:=.slice p2 n2 c2) rfl rfl (ev rfl rfl) ?_)
      refine wnil (thenN (wseq (wseq (wreg (wl rfl (omove (v:=.slice p2 n2 c2) rfl rfl (ev rfl rfl) ?_))))))
      refine wl rfl (omove (v:=.slice p2 n2 c2) rfl rfl (ev rfl rfl) ?_)
      obtain ⟨x3,hx3⟩:∃ x:Nat,Hid (x2 + x2 = x):=⟨_,rfl⟩
      have hkx3:ll x3 ≤ 5:=Nd.add hkx2 hkx2 hx3 (by omega)
      refine wl rfl (ocall rfl rfl Tryz.call27 rfl (wmadd (((hS.sl 0 rfl).nr hkx2).mono (by omega)) (((hS.sl 0 rfl).nr hkx2).mono (by omega)) hx3) (args2 (ev rfl rfl) (ev rfl rfl)) ?_)
      rintro _ w12 ⟨_,_,rfl,⟨p3,n3,c3,rfl,rfl⟩,hN⟩
      refine ⟨_,rfl,?_⟩
      replace hS:=hS.news hN; clear hN
      refine wl rfl (omove (v:=.slice pM nM cM) rfl rfl (ev rfl rfl) ?_)
      obtain ⟨s4,hs4⟩:∃ z:Int,Hid (cmpN x3 ((cv L).2) = z):=⟨_,rfl⟩
      refine wl rfl (ocall rfl rfl Tryz.call20 rfl (wmcmp ((hS.sl 0 rfl).nr hkx3) ((hS.slm 7 rfl).nr hwM) hs4) (args2 (ev rfl rfl) (ev rfl rfl)) ?_)
      rintro _ w13 ⟨_,_,rfl,⟨rfl,rfl⟩,hN⟩
      refine ⟨_,rfl,?_⟩
      replace hS:=hS.news hN; clear hN
      have hq2:=hx2.out
      have hq3:=hx3.out
      refine wl rfl (obin (u:=.int .i64 s4) (v:=.int .i64 0) (z:=.bool false) rfl rfl (ev rfl rfl) evc (bin_geq (decide_eq_false (by rw [← hs4.out]; have:=cmpN_below (show x3 < (cv L).2 by omega); omega))) ?_)
      refine wnil (thenN ?_)
      refine wF (ev rfl rfl) ?_
      refine wskip (thenN (wseq (wreg (wl rfl (oload (vs:=[.bool bA,.slice qA nA kA,.bool bB,.slice qB nB kB]) aggR hS 9 rfl rfl (ev rfl rfl) rfl rfl rfl ?_)))))
      obtain ⟨z5,hz5⟩:∃ z:Int,Hid (RN x y = z):=⟨_,rfl⟩
      have hk5:Wd z5 2097152:=Wd.rn hA.wd hz5
      obtain ⟨z6,hz6⟩:∃ z:Int,Hid (RD x y = z):=⟨_,rfl⟩
      have hk6:Wd z6 2097152:=Wd.rd hB.wd hz6
      refine wl rfl (ocall rfl rfl Tryz.call28 rfl ((wsnorm ((hA.at hS).mono (by omega)) ((hB.at hS).mono (by omega)) (hy0) hz5 hz6)) (args1 (ev rfl rfl)) ?_)
      rintro _ w14 ⟨_,_,rfl,⟨p5,n5,c5,p6,n6,c6,rfl,rfl⟩,hN⟩
      refine ⟨_,rfl,?_⟩
      replace hS:=hS.news hN; clear hN
      refine wl rfl (oalloc [.bool false,.slice none 0 0,.bool false,.slice none 0 0] hS rfl rfl Tryz.zeroValue30 rfl ?_)
      clear hS; intro g15 w16 hS
      refine wl rfl (ostore [.bool (ng z5),.slice p5 n5 c5,.bool (ng z6),.slice p6 n6 c6] [.bool (ng z5),.slice p5 n5 c5,.bool (ng z6),.slice p6 n6 c6] Tryz.sizeOf30 hS 0 rfl rfl (ev rfl rfl) (ev (v:=.agg #[.bool (ng z5),.slice p5 n5 c5,.bool (ng z6),.slice p6 n6 c6]) rfl rfl) rfl rfl rfl rfl rfl rfl ?_)
      clear hS; intro w17 hS
      refine wnil (thenN (wseq (wseq (wreg (wl rfl (ofieldAddr (g:=g15) (off:=0) 0 rfl rfl (ev rfl rfl) Tryz.runUnderlying30 rfl Tryz.sizeOf28 rfl ?_))))))
      refine wl rfl (ofieldAddr (g:=g15) (off:=0) 1 rfl rfl (ev rfl rfl) Tryz.runUnderlying28 rfl Tryz.sizeOf26 rfl ?_)
      refine wl rfl (oload1 (v:=.slice p5 n5 c5) oneN hS 0 rfl rfl (ev rfl rfl) rfl rfl ?_)
      refine wl rfl (omove (v:=.slice p1 n1 c1) rfl rfl (ev rfl rfl) ?_)
      obtain ⟨s7,hs7⟩:∃ z:Int,Hid (cmpN z5.natAbs bd = z):=⟨_,rfl⟩
      refine wl rfl (ocall rfl rfl Tryz.call20 rfl (wmcmp ((hS.slm 1 rfl).nr hk5) ((hS.sl 8 rfl).nr hkx1) hs7) (args2 (ev rfl rfl) (ev rfl rfl)) ?_)
      rintro _ w18 ⟨_,_,rfl,⟨rfl,rfl⟩,hN⟩
      refine ⟨_,rfl,?_⟩
      replace hS:=hS.news hN; clear hN
      by_cases hn1:z5.natAbs ≤ bd
      ·
       refine wl rfl (obin (u:=.int .i64 s7) (v:=.int .i64 0) (z:=.bool true) rfl rfl (ev rfl rfl) evc (bin_leq (decide_eq_true (by rw [← hs7.out]; exact cmpN_not_above hn1))) ?_)
       refine wl rfl (omove (v:=.bool true) rfl rfl (ev rfl rfl) ?_)
       refine wlOn (e:=102) rfl rfl rfl rfl (ofieldAddr (g:=g15) (off:=0) 2 rfl rfl (ev rfl rfl) Tryz.runUnderlying30 rfl Tryz.sizeOf28 rfl ?_)
       refine wlOn (e:=102) rfl rfl rfl rfl (ofieldAddr (g:=g15) (off:=2) 3 rfl rfl (ev rfl rfl) Tryz.runUnderlying28 rfl Tryz.sizeOf26 rfl ?_)
       refine wlOn (e:=102) rfl rfl rfl rfl (oload1 (v:=.slice p6 n6 c6) oneN hS 0 rfl rfl (ev rfl rfl) rfl rfl ?_)
       refine wlOn (e:=102) rfl rfl rfl rfl (omove (v:=.slice p1 n1 c1) rfl rfl (ev rfl rfl) ?_)
       obtain ⟨s8,hs8⟩:∃ z:Int,Hid (cmpN z6.natAbs bd = z):=⟨_,rfl⟩
       refine wlOn (e:=102) rfl rfl rfl rfl (ocall rfl rfl Tryz.call20 rfl (wmcmp ((hS.slm 2 rfl).nr hk6) ((hS.sl 8 rfl).nr hkx1) hs8) (args2 (ev rfl rfl) (ev rfl rfl)) ?_)
       rintro _ w19 ⟨_,_,rfl,⟨rfl,rfl⟩,hN⟩
       refine ⟨_,rfl,?_⟩
       replace hS:=hS.news hN; clear hN
       by_cases hn2:z6.natAbs ≤ bd
       ·
        refine wlOn (e:=102) rfl rfl rfl rfl (obin (u:=.int .i64 s8) (v:=.int .i64 0) (z:=.bool true) rfl rfl (ev rfl rfl) evc (bin_leq (decide_eq_true (by rw [← hs8.out]; exact cmpN_not_above hn2))) ?_)
        refine wl rfl (opick (b:=true) (v:=.bool true) rfl rfl (ev rfl rfl) (ev rfl rfl) ?_)
        refine wnil (thenN ?_)
        refine wT (ev rfl rfl) ?_
        refine wseq (wreg (wl rfl (omove (v:=.int .i64 0) rfl rfl (ev rfl rfl) ?_)))
        refine wl rfl (ocall rfl rfl Tryz.call13 rfl (wlnum6) (args1 (ev rfl rfl)) ?_)
        rintro _ w20 ⟨_,_,rfl,⟨rfl,rfl⟩,hN⟩
        refine ⟨_,rfl,?_⟩
        replace hS:=hS.news hN; clear hN
        refine wl rfl (obin (u:=.int .i64 0) (v:=.int .i64 0) (z:=.bool true) rfl rfl (ev rfl rfl) evc (bin_eql (by decide)) ?_)
        refine wl rfl (omove (v:=.bool true) rfl rfl (ev rfl rfl) ?_)
        refine wlOn (e:=113) rfl rfl rfl rfl (oload (vs:=[.bool (ng (rcx (cv L).1 (cv L).2 bd)),.slice pra nra cra,.bool (ng (rcy (cv L).1 (cv L).2 bd)),.slice prb nrb crb]) aggR hS 5 rfl rfl (ev rfl rfl) rfl rfl rfl ?_)
        refine wlOn (e:=113) rfl rfl rfl rfl (oload (vs:=[.bool (ng z5),.slice p5 n5 c5,.bool (ng z6),.slice p6 n6 c6]) aggR hS 0 rfl rfl (ev rfl rfl) rfl rfl rfl ?_)
        obtain ⟨f0,f1,f2⟩:=fr_found hy0 hgd hL.out hg hbm (by rw [hz5.out]; exact hn1) (by rw [hz6.out]; exact hn2)
        refine wlOn (e:=113) rfl rfl rfl rfl (ocall rfl rfl Tryz.call17 rfl (wssame (x:=rcx (cv L).1 (cv L).2 bd) (y:=rcy (cv L).1 (cv L).2 bd) (u:=z5) (v:=z6) (hS.sl 6 rfl) (hS.sl 7 rfl) (hS.slm 1 rfl) (hS.slm 2 rfl) (f1.trans hz5.out) (f2.trans hz6.out)) (args2 (ev rfl rfl) (ev rfl rfl)) ?_)
        rintro _ w21 ⟨_,_,rfl,⟨rfl,rfl⟩,hN⟩
        refine ⟨_,rfl,?_⟩
        replace hS:=hS.news hN; clear hN
        refine wl rfl (opick (b:=true) (v:=.bool true) rfl rfl (ev rfl rfl) (ev rfl rfl) ?_)
        refine wl rfl (omove (v:=.bool true) rfl rfl (ev rfl rfl) ?_)
        refine wlOn (e:=118) rfl rfl rfl rfl (ocall rfl rfl Tryz.call14 rfl (wlawake6 (ht.at hS)) (args0 ) ?_)
        rintro _ w22 ⟨_,_,rfl,⟨rfl,rfl⟩,hN⟩
        refine ⟨_,rfl,?_⟩
        replace hS:=hS.news hN; clear hN
        refine wl rfl (opick (b:=true) (v:=.bool true) rfl rfl (ev rfl rfl) (ev rfl rfl) ?_)
        refine wl rfl (oassign (v:=.bool true) rfl rfl (ev rfl rfl) ?_)
        refine wnil (thenN ?_)
        refine wleave ?_
        refine thenR ?_
        refine wret1 Tryz.results6 (tellT (v:=.bool true) rfl rfl) ?_
        exact ⟨_,_,rfl,isI,hS.new0⟩
       ·
        refine wlOn (e:=102) rfl rfl rfl rfl (obin (u:=.int .i64 s8) (v:=.int .i64 0) (z:=.bool false) rfl rfl (ev rfl rfl) evc (bin_leq (decide_eq_false (by rw [← hs8.out]; have:=cmpN_above (show bd < z6.natAbs by omega); omega))) ?_)
        refine wl rfl (opick (b:=true) (v:=.bool false) rfl rfl (ev rfl rfl) (ev rfl rfl) ?_)
        refine wnil (thenN ?_)
        refine wF (ev rfl rfl) ?_
        refine wskip (thenN (wseq (wseq (wreg (wl rfl (omove (v:=.int .i64 0) rfl rfl (ev rfl rfl) ?_))))))
        refine wl rfl (ocall rfl rfl Tryz.call13 rfl (wlnum6) (args1 (ev rfl rfl)) ?_)
        rintro _ w20 ⟨_,_,rfl,⟨rfl,rfl⟩,hN⟩
        refine ⟨_,rfl,?_⟩
        replace hS:=hS.news hN; clear hN
        refine wl rfl (obin (u:=.int .i64 0) (v:=.int .i64 0) (z:=.bool false) rfl rfl (ev rfl rfl) evc (bin_neq (by decide)) ?_)
        refine wnil (thenN ?_)
        refine wF (ev rfl rfl) ?_
        refine wskip (thenN (wseq ?_))
        obtain ⟨z9,hz9⟩:∃ z:Int,Hid (((((cv L).1:Nat):Int)) * (rcy (cv L).1 (cv L).2 bd) = z):=⟨_,rfl⟩
        have hk9:Wd z9 1048578:=Wd.mul (Wd.ofN hwV) hkrb hz9 (by omega)
        obtain ⟨z10,hz10⟩:∃ z:Int,Hid ((rcx (cv L).1 (cv L).2 bd) - z9 = z):=⟨_,rfl⟩
        have hk10:Wd z10 1048579:=Wd.sub hkra hk9 hz10 (by omega)
        refine wstage 9 [130,131,132,133,134,135,136,137,20] [[],[0],[],[2],[],[4],[3,5,2,4],[1,6,0,2,3,4,5],[]] [[],[],[],[],[],[],[],[],[]] [] [] (fun i9 => ([fun _ => Is (.pointer (some ⟨g8,0,none⟩)),fun _ => Is (.agg #[.bool (ng (rcx (cv L).1 (cv L).2 bd)),.slice pra nra cra]),fun _ => Is (.slice pV nV cV),fun _ => Is (.agg #[.bool false,.slice pV nV cV]),fun _ => Is (.pointer (some ⟨g8,2,none⟩)),fun _ => Is (.agg #[.bool (ng (rcy (cv L).1 (cv L).2 bd)),.slice prb nrb crb]),fun _ => Zt z9,fun _ => Zt z10,fun _ => Ptr [.bool false,.slice none 0 0] 28]:List (List Value → Tell)).getD i9 (fun _ _ _ => False)) (heldNil) (fun d _ _ _ _ h => (by cases d <;> exact h)) (by kernel_rfl) (by kernel_rfl) (by kernel_rfl) hS ?_ ?_
        ·
         refine stepsCons rfl (fun Q f' w' ρ S ho hT hS hB => ?_) ?_
         ·exact .inl ⟨want_none rfl,ofieldAddr (g:=g8) (off:=0) 0 rfl rfl (ev rfl (ho 16 rfl)) Tryz.runUnderlying30 rfl Tryz.sizeOf28 rfl ⟨_,_,rfl,isI,New.same _⟩⟩
         refine stepsCons rfl (fun Q f' w' ρ S ho hT hS hB => ?_) ?_
         ·obtain ⟨hv0,hr0⟩:=(hT 0 130 rfl rfl:(Is (.pointer (some ⟨g8,0,none⟩))) _ _)
          obtain hS:=hS.flat1 hr0
          exact .inl ⟨want_none rfl,oload (vs:=[.bool (ng (rcx (cv L).1 (cv L).2 bd)),.slice pra nra cra]) aggZ hS 5 rfl rfl (ev rfl hv0) rfl rfl rfl ⟨_,_,rfl,isI,New.same _⟩⟩
         refine stepsCons rfl (fun Q f' w' ρ S ho hT hS hB => ?_) ?_
         ·exact .inl ⟨want_none rfl,omove (v:=.slice pV nV cV) rfl rfl (ev rfl (ho 12 rfl)) ⟨_,_,rfl,isI,New.same _⟩⟩
         refine stepsCons rfl (fun Q f' w' ρ S ho hT hS hB => ?_) ?_
         ·obtain ⟨hv2,hr2⟩:=(hT 2 132 rfl rfl:(Is (.slice pV nV cV)) _ _)
          obtain hS:=hS.flat1 hr2
          exact .inl ⟨want_none rfl,obuild (ps:=#[(1,.slice pV nV cV)]) (v:=.agg #[.bool false,.slice pV nV cV]) rfl rfl (parts1 (ev (v:=.slice pV nV cV) rfl hv2)) (fun w => by simp [go_sem,Instr.build,Instr.fill]) ⟨_,_,rfl,isI,New.same _⟩⟩
         refine stepsCons rfl (fun Q f' w' ρ S ho hT hS hB => ?_) ?_
         ·exact .inl ⟨want_none rfl,ofieldAddr (g:=g8) (off:=0) 2 rfl rfl (ev rfl (ho 16 rfl)) Tryz.runUnderlying30 rfl Tryz.sizeOf28 rfl ⟨_,_,rfl,isI,New.same _⟩⟩
         refine stepsCons rfl (fun Q f' w' ρ S ho hT hS hB => ?_) ?_
         ·obtain ⟨hv4,hr4⟩:=(hT 4 134 rfl rfl:(Is (.pointer (some ⟨g8,2,none⟩))) _ _)
          obtain hS:=hS.flat1 hr4
          exact .inl ⟨want_none rfl,oload (vs:=[.bool (ng (rcy (cv L).1 (cv L).2 bd)),.slice prb nrb crb]) aggZ hS 5 rfl rfl (ev rfl hv4) rfl rfl rfl ⟨_,_,rfl,isI,New.same _⟩⟩
         refine stepsCons rfl (fun Q f' w' ρ S ho hT hS hB => ?_) ?_
         ·obtain ⟨hv3,hr3⟩:=(hT 3 133 rfl rfl:(Is (.agg #[.bool false,.slice pV nV cV])) _ _)
          obtain ⟨hv5,hr5⟩:=(hT 5 135 rfl rfl:(Is (.agg #[.bool (ng (rcy (cv L).1 (cv L).2 bd)),.slice prb nrb crb])) _ _)
          obtain hS:=hS.flat2 hr3 hr5
          exact .inl ⟨want_none rfl,ocall rfl rfl Tryz.call30 rfl (wqmul (((hS.slm 9 rfl).zrN hwV).mono (by omega)) (((hS.sl 7 rfl).zr hkrb).mono (by omega)) hz9) (args2 (ev rfl hv3) (ev rfl hv5)) callN⟩
         refine stepsCons rfl (fun Q f' w' ρ S ho hT hS hB => ?_) ?_
         ·obtain ⟨hv1,hr1⟩:=(hT 1 131 rfl rfl:(Is (.agg #[.bool (ng (rcx (cv L).1 (cv L).2 bd)),.slice pra nra cra])) _ _)
          obtain ⟨p9,n9,c9,hv6,hr6⟩:=(hT 6 136 rfl rfl:(Zt z9) _ _)
          obtain hS:=hS.flat2 hr1 hr6
          exact .inl ⟨want_none rfl,ocall rfl rfl Tryz.call29 rfl (wqsub (((hS.sl 6 rfl).zr hkra).mono (by omega)) (((hS.sl 13 rfl).zr hk9).mono (by omega)) hz10) (args2 (ev rfl hv1) (ev rfl hv6)) callN⟩
         refine stepsCons rfl (fun Q f' w' ρ S ho hT hS hB => ?_) ?_
         ·exact .inl ⟨want_none rfl,oallocN [.bool false,.slice none 0 0] rfl rfl Tryz.zeroValue28 rfl ⟨_,_,rfl,ptrI,New.blk _ _ _⟩⟩
         exact stepsNil
        ·
         intro vs ρ w22 f' hf hT hS
         obtain ⟨hv0,hr0⟩:=(hT 0 (by decide):(Is (.pointer (some ⟨g8,0,none⟩))) _ _)
         obtain ⟨hv1,hr1⟩:=(hT 1 (by decide):(Is (.agg #[.bool (ng (rcx (cv L).1 (cv L).2 bd)),.slice pra nra cra])) _ _)
         obtain ⟨hv2,hr2⟩:=(hT 2 (by decide):(Is (.slice pV nV cV)) _ _)
         obtain ⟨hv3,hr3⟩:=(hT 3 (by decide):(Is (.agg #[.bool false,.slice pV nV cV])) _ _)
         obtain ⟨hv4,hr4⟩:=(hT 4 (by decide):(Is (.pointer (some ⟨g8,2,none⟩))) _ _)
         obtain ⟨hv5,hr5⟩:=(hT 5 (by decide):(Is (.agg #[.bool (ng (rcy (cv L).1 (cv L).2 bd)),.slice prb nrb crb])) _ _)
         obtain ⟨p9,n9,c9,hv6,hr6⟩:=(hT 6 (by decide):(Zt z9) _ _)
         obtain ⟨p10,n10,c10,hv7,hr7⟩:=(hT 7 (by decide):(Zt z10) _ _)
         obtain ⟨g21,hv8,hr8⟩:=(hT 8 (by decide):(Ptr [.bool false,.slice none 0 0] 28) _ _)
         simp only [pool,if_true,hr0,hr1,hr2,hr3,hr4,hr5,hr6,hr7,hr8,List.nil_append,List.cons_append,List.append_nil] at hS
         simp only [layf,hv0,hv1,hv2,hv3,hv4,hv5,hv6,hv7,hv8] at hf
         subst hf; clear hT hv0 hv1 hv2 hv3 hv4 hv5 hv6 hv7 hv8 hr0 hr1 hr2 hr3 hr4 hr5 hr6 hr7 hr8
         refine wlate 9 rfl (by kernel_rfl) (ostore [.bool (ng z10),.slice p10 n10 c10] [.bool (ng z10),.slice p10 n10 c10] Tryz.sizeOf28 hS 0 rfl rfl (ev rfl rfl) (ev (v:=.agg #[.bool (ng z10),.slice p10 n10 c10]) rfl rfl) rfl rfl rfl rfl rfl rfl ?_)
         clear hS; intro w23 hS
         refine ⟨heldNil,?_⟩
         refine wdone rfl ?_
         refine thenN (wseq (wreg (wl rfl (oload (vs:=[.bool (ng z10),.slice p10 n10 c10]) aggZ hS 0 rfl rfl (ev rfl rfl) rfl rfl rfl ?_))))
         refine wl rfl (omove (v:=.slice pM nM cM) rfl rfl (ev rfl rfl) ?_)
         refine wl rfl (obuild (ps:=#[(1,.slice pM nM cM)]) (v:=.agg #[.bool false,.slice pM nM cM]) rfl rfl (parts1 (ev (v:=.slice pM nM cM) rfl rfl)) (fun w => by simp [go_sem,Instr.build,Instr.fill]) ?_)
         obtain ⟨z11,hz11⟩:∃ z:Int,Hid (z10 / ((((cv L).2:Nat):Int)) = z):=⟨_,rfl⟩
         have hk11:Wd z11 1048579:=Wd.ediv hk10 hz11
         obtain ⟨z12,hz12⟩:∃ z:Int,Hid (z10 % ((((cv L).2:Nat):Int)) = z):=⟨_,rfl⟩
         have hk12:Wd z12 1048577:=Wd.emod (Wd.ofN hwM) (hm0) hz12
         refine wl rfl (ocall rfl rfl Tryz.call31 rfl (wqeuclidQ (by omega) (((hS.sl 1 rfl).zr hk10).mono (by omega)) (((hS.slm 13 rfl).zrN hwM).mono (by omega)) (hm0) hz11 hz12) (args2 (ev rfl rfl) (ev rfl rfl)) ?_)
         rintro _ w24 ⟨_,_,rfl,⟨p11,n11,c11,p12,n12,c12,rfl,rfl⟩,hN⟩
         refine ⟨_,rfl,?_⟩
         replace hS:=hS.news hN; clear hN
         refine wl rfl (omove (v:=.tuple #[.agg #[.bool (ng z11),.slice p11 n11 c11],.agg #[.bool (ng z12),.slice p12 n12 c12]]) rfl rfl (ev rfl rfl) ?_)
         refine wl rfl (oextract (vs:=[.agg #[.bool (ng z11),.slice p11 n11 c11],.agg #[.bool (ng z12),.slice p12 n12 c12]]) (v:=.agg #[.bool (ng z11),.slice p11 n11 c11]) rfl rfl (ev rfl rfl) rfl ?_)
         refine wl rfl (oextract (vs:=[.agg #[.bool (ng z11),.slice p11 n11 c11],.agg #[.bool (ng z12),.slice p12 n12 c12]]) (v:=.agg #[.bool (ng z12),.slice p12 n12 c12]) rfl rfl (ev rfl rfl) rfl ?_)
         refine wl rfl (oalloc [.bool false,.slice none 0 0] hS rfl rfl Tryz.zeroValue28 rfl ?_)
         clear hS; intro g25 w26 hS
         refine wl rfl (oalloc [.bool false,.slice none 0 0] hS rfl rfl Tryz.zeroValue28 rfl ?_)
         clear hS; intro g27 w28 hS
         refine wl rfl (ostore [.bool (ng z11),.slice p11 n11 c11] [.bool (ng z11),.slice p11 n11 c11] Tryz.sizeOf28 hS 1 rfl rfl (ev rfl rfl) (ev (v:=.agg #[.bool (ng z11),.slice p11 n11 c11]) rfl rfl) rfl rfl rfl rfl rfl rfl ?_)
         clear hS; intro w29 hS
         refine wl rfl (ostore [.bool (ng z12),.slice p12 n12 c12] [.bool (ng z12),.slice p12 n12 c12] Tryz.sizeOf28 hS 0 rfl rfl (ev rfl rfl) (ev (v:=.agg #[.bool (ng z12),.slice p12 n12 c12]) rfl rfl) rfl rfl rfl rfl rfl rfl ?_)
         clear hS; intro w30 hS
         refine wnil (thenN (wseq (wreg (wl rfl (oload (vs:=[.bool (ng z12),.slice p12 n12 c12]) aggZ hS 0 rfl rfl (ev rfl rfl) rfl rfl rfl ?_)))))
         obtain ⟨s13,hs13⟩:∃ z:Int,Hid ((z12:Int).sign = z):=⟨_,rfl⟩
         refine wl rfl (ocall rfl rfl Tryz.call32 rfl (wqsign (((hS.sl 3 rfl).zr hk12).mono (by omega)) hs13) (args1 (ev rfl rfl)) ?_)
         rintro _ w31 ⟨_,_,rfl,⟨rfl,rfl⟩,hN⟩
         refine ⟨_,rfl,?_⟩
         replace hS:=hS.news hN; clear hN
         refine wl rfl (obin (u:=.int .i64 s13) (v:=.int .i64 0) (z:=.bool true) rfl rfl (ev rfl rfl) evc (bin_eql (sign_eq hs13 (by rw [← hz12.out]; exact Int.emod_eq_zero_of_dvd (by rw [← hz10.out, ← hz9.out]; exact ra3)))) ?_)
         refine wl rfl (omove (v:=.bool true) rfl rfl (ev rfl rfl) ?_)
         refine wlOn (e:=148) rfl rfl rfl rfl (ofieldAddr (g:=g8) (off:=0) 0 rfl rfl (ev rfl rfl) Tryz.runUnderlying30 rfl Tryz.sizeOf28 rfl ?_)
         refine wlOn (e:=148) rfl rfl rfl rfl (ofieldAddr (g:=g8) (off:=0) 1 rfl rfl (ev rfl rfl) Tryz.runUnderlying28 rfl Tryz.sizeOf26 rfl ?_)
         refine wlOn (e:=148) rfl rfl rfl rfl (oload1 (v:=.slice pra nra cra) oneN hS 12 rfl rfl (ev rfl rfl) rfl rfl ?_)
         refine wlOn (e:=148) rfl rfl rfl rfl (omove (v:=.slice p1 n1 c1) rfl rfl (ev rfl rfl) ?_)
         obtain ⟨s14,hs14⟩:∃ z:Int,Hid (cmpN ((rcx (cv L).1 (cv L).2 bd).natAbs) bd = z):=⟨_,rfl⟩
         refine wlOn (e:=148) rfl rfl rfl rfl (ocall rfl rfl Tryz.call20 rfl (wmcmp ((hS.sl 13 rfl).nr hkra) ((hS.sl 15 rfl).nr hkx1) hs14) (args2 (ev rfl rfl) (ev rfl rfl)) ?_)
         rintro _ w32 ⟨_,_,rfl,⟨rfl,rfl⟩,hN⟩
         refine ⟨_,rfl,?_⟩
         replace hS:=hS.news hN; clear hN
         refine wlOn (e:=148) rfl rfl rfl rfl (obin (u:=.int .i64 s14) (v:=.int .i64 0) (z:=.bool true) rfl rfl (ev rfl rfl) evc (bin_leq (decide_eq_true (by rw [← hs14.out]; exact cmpN_not_above ra1))) ?_)
         refine wl rfl (opick (b:=true) (v:=.bool true) rfl rfl (ev rfl rfl) (ev rfl rfl) ?_)
         refine wl rfl (omove (v:=.bool true) rfl rfl (ev rfl rfl) ?_)
         refine wlOn (e:=156) rfl rfl rfl rfl (ofieldAddr (g:=g8) (off:=0) 2 rfl rfl (ev rfl rfl) Tryz.runUnderlying30 rfl Tryz.sizeOf28 rfl ?_)
         refine wlOn (e:=156) rfl rfl rfl rfl (ofieldAddr (g:=g8) (off:=2) 3 rfl rfl (ev rfl rfl) Tryz.runUnderlying28 rfl Tryz.sizeOf26 rfl ?_)
         refine wlOn (e:=156) rfl rfl rfl rfl (oload1 (v:=.slice prb nrb crb) oneN hS 12 rfl rfl (ev rfl rfl) rfl rfl ?_)
         refine wlOn (e:=156) rfl rfl rfl rfl (omove (v:=.slice p1 n1 c1) rfl rfl (ev rfl rfl) ?_)
         obtain ⟨s15,hs15⟩:∃ z:Int,Hid (cmpN ((rcy (cv L).1 (cv L).2 bd).natAbs) bd = z):=⟨_,rfl⟩
         refine wlOn (e:=156) rfl rfl rfl rfl (ocall rfl rfl Tryz.call20 rfl (wmcmp ((hS.sl 14 rfl).nr hkrb) ((hS.sl 15 rfl).nr hkx1) hs15) (args2 (ev rfl rfl) (ev rfl rfl)) ?_)
         rintro _ w33 ⟨_,_,rfl,⟨rfl,rfl⟩,hN⟩
         refine ⟨_,rfl,?_⟩
         replace hS:=hS.news hN; clear hN
         refine wlOn (e:=156) rfl rfl rfl rfl (obin (u:=.int .i64 s15) (v:=.int .i64 0) (z:=.bool true) rfl rfl (ev rfl rfl) evc (bin_leq (decide_eq_true (by rw [← hs15.out]; exact cmpN_not_above ra2))) ?_)
         refine wl rfl (opick (b:=true) (v:=.bool true) rfl rfl (ev rfl rfl) (ev rfl rfl) ?_)
         refine wl rfl (omove (v:=.bool true) rfl rfl (ev rfl rfl) ?_)
         refine wlOn (e:=164) rfl rfl rfl rfl (ocall rfl rfl Tryz.call14 rfl (wlawake6 (ht.at hS)) (args0 ) ?_)
         rintro _ w34 ⟨_,_,rfl,⟨rfl,rfl⟩,hN⟩
         refine ⟨_,rfl,?_⟩
         replace hS:=hS.news hN; clear hN
         refine wl rfl (opick (b:=true) (v:=.bool true) rfl rfl (ev rfl rfl) (ev rfl rfl) ?_)
         refine wl rfl (oassign (v:=.bool true) rfl rfl (ev rfl rfl) ?_)
         refine wnil (thenN ?_)
         refine wleave ?_
         refine wret1 Tryz.results6 (tellT (v:=.bool true) rfl rfl) ?_
         exact ⟨_,_,rfl,isI,hS.new0⟩
      ·
       refine wl rfl (obin (u:=.int .i64 s7) (v:=.int .i64 0) (z:=.bool false) rfl rfl (ev rfl rfl) evc (bin_leq (decide_eq_false (by rw [← hs7.out]; have:=cmpN_above (show bd < z5.natAbs by omega); omega))) ?_)
       refine wl rfl (omove (v:=.bool false) rfl rfl (ev rfl rfl) ?_)
       refine wlOff (e:=102) (d:=103) (b':=false) rfl rfl rfl rfl rfl rfl ?_
       refine wlOff (e:=102) (d:=104) (b':=false) rfl rfl rfl rfl rfl rfl ?_
       refine wlOff (e:=102) (d:=105) (b':=false) rfl rfl rfl rfl rfl rfl ?_
       refine wlOff (e:=102) (d:=106) (b':=false) rfl rfl rfl rfl rfl rfl ?_
       refine wlOff (e:=102) (d:=107) (b':=false) rfl rfl rfl rfl rfl rfl ?_
       refine wlOff (e:=102) (d:=108) (b':=false) rfl rfl rfl rfl rfl rfl ?_
       refine wl rfl (opick (b:=false) (v:=.bool false) rfl rfl (ev rfl rfl) evc ?_)
       refine wnil (thenN ?_)
       refine wF (ev rfl rfl) ?_
       refine wskip (thenN (wseq (wseq (wreg (wl rfl (omove (v:=.int .i64 0) rfl rfl (ev rfl rfl) ?_))))))
       refine wl rfl (ocall rfl rfl Tryz.call13 rfl (wlnum6) (args1 (ev rfl rfl)) ?_)
       rintro _ w19 ⟨_,_,rfl,⟨rfl,rfl⟩,hN⟩
       refine ⟨_,rfl,?_⟩
       replace hS:=hS.news hN; clear hN
       refine wl rfl (obin (u:=.int .i64 0) (v:=.int .i64 0) (z:=.bool false) rfl rfl (ev rfl rfl) evc (bin_neq (by decide)) ?_)
       refine wnil (thenN ?_)
       refine wF (ev rfl rfl) ?_
       refine wskip (thenN (wseq ?_))
       obtain ⟨z8,hz8⟩:∃ z:Int,Hid (((((cv L).1:Nat):Int)) * (rcy (cv L).1 (cv L).2 bd) = z):=⟨_,rfl⟩
       have hk8:Wd z8 1048578:=Wd.mul (Wd.ofN hwV) hkrb hz8 (by omega)
       obtain ⟨z9,hz9⟩:∃ z:Int,Hid ((rcx (cv L).1 (cv L).2 bd) - z8 = z):=⟨_,rfl⟩
       have hk9:Wd z9 1048579:=Wd.sub hkra hk8 hz9 (by omega)
       refine wstage 9 [130,131,132,133,134,135,136,137,20] [[],[0],[],[2],[],[4],[3,5,2,4],[1,6,0,2,3,4,5],[]] [[],[],[],[],[],[],[],[],[]] [] [] (fun i9 => ([fun _ => Is (.pointer (some ⟨g8,0,none⟩)),fun _ => Is (.agg #[.bool (ng (rcx (cv L).1 (cv L).2 bd)),.slice pra nra cra]),fun _ => Is (.slice pV nV cV),fun _ => Is (.agg #[.bool false,.slice pV nV cV]),fun _ => Is (.pointer (some ⟨g8,2,none⟩)),fun _ => Is (.agg #[.bool (ng (rcy (cv L).1 (cv L).2 bd)),.slice prb nrb crb]),fun _ => Zt z8,fun _ => Zt z9,fun _ => Ptr [.bool false,.slice none 0 0] 28]:List (List Value → Tell)).getD i9 (fun _ _ _ => False)) (heldNil) (fun d _ _ _ _ h => (by cases d <;> exact h)) (by kernel_rfl) (by kernel_rfl) (by kernel_rfl) hS ?_ ?_
       ·
        refine stepsCons rfl (fun Q f' w' ρ S ho hT hS hB => ?_) ?_
        ·exact .inl ⟨want_none rfl,ofieldAddr (g:=g8) (off:=0) 0 rfl rfl (ev rfl (ho 16 rfl)) Tryz.runUnderlying30 rfl Tryz.sizeOf28 rfl ⟨_,_,rfl,isI,New.same _⟩⟩
        refine stepsCons rfl (fun Q f' w' ρ S ho hT hS hB => ?_) ?_
        ·obtain ⟨hv0,hr0⟩:=(hT 0 130 rfl rfl:(Is (.pointer (some ⟨g8,0,none⟩))) _ _)
         obtain hS:=hS.flat1 hr0
         exact .inl ⟨want_none rfl,oload (vs:=[.bool (ng (rcx (cv L).1 (cv L).2 bd)),.slice pra nra cra]) aggZ hS 5 rfl rfl (ev rfl hv0) rfl rfl rfl ⟨_,_,rfl,isI,New.same _⟩⟩
        refine stepsCons rfl (fun Q f' w' ρ S ho hT hS hB => ?_) ?_
        ·exact .inl ⟨want_none rfl,omove (v:=.slice pV nV cV) rfl rfl (ev rfl (ho 12 rfl)) ⟨_,_,rfl,isI,New.same _⟩⟩
        refine stepsCons rfl (fun Q f' w' ρ S ho hT hS hB => ?_) ?_
        ·obtain ⟨hv2,hr2⟩:=(hT 2 132 rfl rfl:(Is (.slice pV nV cV)) _ _)
         obtain hS:=hS.flat1 hr2
         exact .inl ⟨want_none rfl,obuild (ps:=#[(1,.slice pV nV cV)]) (v:=.agg #[.bool false,.slice pV nV cV]) rfl rfl (parts1 (ev (v:=.slice pV nV cV) rfl hv2)) (fun w => by simp [go_sem,Instr.build,Instr.fill]) ⟨_,_,rfl,isI,New.same _⟩⟩
        refine stepsCons rfl (fun Q f' w' ρ S ho hT hS hB => ?_) ?_
        ·exact .inl ⟨want_none rfl,ofieldAddr (g:=g8) (off:=0) 2 rfl rfl (ev rfl (ho 16 rfl)) Tryz.runUnderlying30 rfl Tryz.sizeOf28 rfl ⟨_,_,rfl,isI,New.same _⟩⟩
        refine stepsCons rfl (fun Q f' w' ρ S ho hT hS hB => ?_) ?_
        ·obtain ⟨hv4,hr4⟩:=(hT 4 134 rfl rfl:(Is (.pointer (some ⟨g8,2,none⟩))) _ _)
         obtain hS:=hS.flat1 hr4
         exact .inl ⟨want_none rfl,oload (vs:=[.bool (ng (rcy (cv L).1 (cv L).2 bd)),.slice prb nrb crb]) aggZ hS 5 rfl rfl (ev rfl hv4) rfl rfl rfl ⟨_,_,rfl,isI,New.same _⟩⟩
        refine stepsCons rfl (fun Q f' w' ρ S ho hT hS hB => ?_) ?_
        ·obtain ⟨hv3,hr3⟩:=(hT 3 133 rfl rfl:(Is (.agg #[.bool false,.slice pV nV cV])) _ _)
         obtain ⟨hv5,hr5⟩:=(hT 5 135 rfl rfl:(Is (.agg #[.bool (ng (rcy (cv L).1 (cv L).2 bd)),.slice prb nrb crb])) _ _)
         obtain hS:=hS.flat2 hr3 hr5
         exact .inl ⟨want_none rfl,ocall rfl rfl Tryz.call30 rfl (wqmul (((hS.slm 9 rfl).zrN hwV).mono (by omega)) (((hS.sl 7 rfl).zr hkrb).mono (by omega)) hz8) (args2 (ev rfl hv3) (ev rfl hv5)) callN⟩
        refine stepsCons rfl (fun Q f' w' ρ S ho hT hS hB => ?_) ?_
        ·obtain ⟨hv1,hr1⟩:=(hT 1 131 rfl rfl:(Is (.agg #[.bool (ng (rcx (cv L).1 (cv L).2 bd)),.slice pra nra cra])) _ _)
         obtain ⟨p8,n8,c8,hv6,hr6⟩:=(hT 6 136 rfl rfl:(Zt z8) _ _)
         obtain hS:=hS.flat2 hr1 hr6
         exact .inl ⟨want_none rfl,ocall rfl rfl Tryz.call29 rfl (wqsub (((hS.sl 6 rfl).zr hkra).mono (by omega)) (((hS.sl 13 rfl).zr hk8).mono (by omega)) hz9) (args2 (ev rfl hv1) (ev rfl hv6)) callN⟩
        refine stepsCons rfl (fun Q f' w' ρ S ho hT hS hB => ?_) ?_
        ·exact .inl ⟨want_none rfl,oallocN [.bool false,.slice none 0 0] rfl rfl Tryz.zeroValue28 rfl ⟨_,_,rfl,ptrI,New.blk _ _ _⟩⟩
        exact stepsNil
       ·
        intro vs ρ w21 f' hf hT hS
        obtain ⟨hv0,hr0⟩:=(hT 0 (by decide):(Is (.pointer (some ⟨g8,0,none⟩))) _ _)
        obtain ⟨hv1,hr1⟩:=(hT 1 (by decide):(Is (.agg #[.bool (ng (rcx (cv L).1 (cv L).2 bd)),.slice pra nra cra])) _ _)
        obtain ⟨hv2,hr2⟩:=(hT 2 (by decide):(Is (.slice pV nV cV)) _ _)
        obtain ⟨hv3,hr3⟩:=(hT 3 (by decide):(Is (.agg #[.bool false,.slice pV nV cV])) _ _)
        obtain ⟨hv4,hr4⟩:=(hT 4 (by decide):(Is (.pointer (some ⟨g8,2,none⟩))) _ _)
        obtain ⟨hv5,hr5⟩:=(hT 5 (by decide):(Is (.agg #[.bool (ng (rcy (cv L).1 (cv L).2 bd)),.slice prb nrb crb])) _ _)
        obtain ⟨p8,n8,c8,hv6,hr6⟩:=(hT 6 (by decide):(Zt z8) _ _)
        obtain ⟨p9,n9,c9,hv7,hr7⟩:=(hT 7 (by decide):(Zt z9) _ _)
        obtain ⟨g20,hv8,hr8⟩:=(hT 8 (by decide):(Ptr [.bool false,.slice none 0 0] 28) _ _)
        simp only [pool,if_true,hr0,hr1,hr2,hr3,hr4,hr5,hr6,hr7,hr8,List.nil_append,List.cons_append,List.append_nil] at hS
        simp only [layf,hv0,hv1,hv2,hv3,hv4,hv5,hv6,hv7,hv8] at hf
        subst hf; clear hT hv0 hv1 hv2 hv3 hv4 hv5 hv6 hv7 hv8 hr0 hr1 hr2 hr3 hr4 hr5 hr6 hr7 hr8
        refine wlate 9 rfl (by kernel_rfl) (ostore [.bool (ng z9),.slice p9 n9 c9] [.bool (ng z9),.slice p9 n9 c9] Tryz.sizeOf28 hS 0 rfl rfl (ev rfl rfl) (ev (v:=.agg #[.bool (ng z9),.slice p9 n9 c9]) rfl rfl) rfl rfl rfl rfl rfl rfl ?_)
        clear hS; intro w22 hS
        refine ⟨heldNil,?_⟩
        refine wdone rfl ?_
        refine thenN (wseq (wreg (wl rfl (oload (vs:=[.bool (ng z9),.slice p9 n9 c9]) aggZ hS 0 rfl rfl (ev rfl rfl) rfl rfl rfl ?_))))
        refine wl rfl (omove (v:=.slice pM nM cM) rfl rfl (ev rfl rfl) ?_)
        refine wl rfl (obuild (ps:=#[(1,.slice pM nM cM)]) (v:=.agg #[.bool false,.slice pM nM cM]) rfl rfl (parts1 (ev (v:=.slice pM nM cM) rfl rfl)) (fun w => by simp [go_sem,Instr.build,Instr.fill]) ?_)
        obtain ⟨z10,hz10⟩:∃ z:Int,Hid (z9 / ((((cv L).2:Nat):Int)) = z):=⟨_,rfl⟩
        have hk10:Wd z10 1048579:=Wd.ediv hk9 hz10
        obtain ⟨z11,hz11⟩:∃ z:Int,Hid (z9 % ((((cv L).2:Nat):Int)) = z):=⟨_,rfl⟩
        have hk11:Wd z11 1048577:=Wd.emod (Wd.ofN hwM) (hm0) hz11
        refine wl rfl (ocall rfl rfl Tryz.call31 rfl (wqeuclidQ (by omega) (((hS.sl 1 rfl).zr hk9).mono (by omega)) (((hS.slm 13 rfl).zrN hwM).mono (by omega)) (hm0) hz10 hz11) (args2 (ev rfl rfl) (ev rfl rfl)) ?_)
        rintro _ w23 ⟨_,_,rfl,⟨p10,n10,c10,p11,n11,c11,rfl,rfl⟩,hN⟩
        refine ⟨_,rfl,?_⟩
        replace hS:=hS.news hN; clear hN
        refine wl rfl (omove (v:=.tuple #[.agg #[.bool (ng z10),.slice p10 n10 c10],.agg #[.bool (ng z11),.slice p11 n11 c11]]) rfl rfl (ev rfl rfl) ?_)
        refine wl rfl (oextract (vs:=[.agg #[.bool (ng z10),.slice p10 n10 c10],.agg #[.bool (ng z11),.slice p11 n11 c11]]) (v:=.agg #[.bool (ng z10),.slice p10 n10 c10]) rfl rfl (ev rfl rfl) rfl ?_)
        refine wl rfl (oextract (vs:=[.agg #[.bool (ng z10),.slice p10 n10 c10],.agg #[.bool (ng z11),.slice p11 n11 c11]]) (v:=.agg #[.bool (ng z11),.slice p11 n11 c11]) rfl rfl (ev rfl rfl) rfl ?_)
        refine wl rfl (oalloc [.bool false,.slice none 0 0] hS rfl rfl Tryz.zeroValue28 rfl ?_)
        clear hS; intro g24 w25 hS
        refine wl rfl (oalloc [.bool false,.slice none 0 0] hS rfl rfl Tryz.zeroValue28 rfl ?_)
        clear hS; intro g26 w27 hS
        refine wl rfl (ostore [.bool (ng z10),.slice p10 n10 c10] [.bool (ng z10),.slice p10 n10 c10] Tryz.sizeOf28 hS 1 rfl rfl (ev rfl rfl) (ev (v:=.agg #[.bool (ng z10),.slice p10 n10 c10]) rfl rfl) rfl rfl rfl rfl rfl rfl ?_)
        clear hS; intro w28 hS
        refine wl rfl (ostore [.bool (ng z11),.slice p11 n11 c11] [.bool (ng z11),.slice p11 n11 c11] Tryz.sizeOf28 hS 0 rfl rfl (ev rfl rfl) (ev (v:=.agg #[.bool (ng z11),.slice p11 n11 c11]) rfl rfl) rfl rfl rfl rfl rfl rfl ?_)
        clear hS; intro w29 hS
        refine wnil (thenN (wseq (wreg (wl rfl (oload (vs:=[.bool (ng z11),.slice p11 n11 c11]) aggZ hS 0 rfl rfl (ev rfl rfl) rfl rfl rfl ?_)))))
        obtain ⟨s12,hs12⟩:∃ z:Int,Hid ((z11:Int).sign = z):=⟨_,rfl⟩
        refine wl rfl (ocall rfl rfl Tryz.call32 rfl (wqsign (((hS.sl 3 rfl).zr hk11).mono (by omega)) hs12) (args1 (ev rfl rfl)) ?_)
        rintro _ w30 ⟨_,_,rfl,⟨rfl,rfl⟩,hN⟩
        refine ⟨_,rfl,?_⟩
        replace hS:=hS.news hN; clear hN
        refine wl rfl (obin (u:=.int .i64 s12) (v:=.int .i64 0) (z:=.bool true) rfl rfl (ev rfl rfl) evc (bin_eql (sign_eq hs12 (by rw [← hz11.out]; exact Int.emod_eq_zero_of_dvd (by rw [← hz9.out, ← hz8.out]; exact ra3)))) ?_)
        refine wl rfl (omove (v:=.bool true) rfl rfl (ev rfl rfl) ?_)
        refine wlOn (e:=148) rfl rfl rfl rfl (ofieldAddr (g:=g8) (off:=0) 0 rfl rfl (ev rfl rfl) Tryz.runUnderlying30 rfl Tryz.sizeOf28 rfl ?_)
        refine wlOn (e:=148) rfl rfl rfl rfl (ofieldAddr (g:=g8) (off:=0) 1 rfl rfl (ev rfl rfl) Tryz.runUnderlying28 rfl Tryz.sizeOf26 rfl ?_)
        refine wlOn (e:=148) rfl rfl rfl rfl (oload1 (v:=.slice pra nra cra) oneN hS 12 rfl rfl (ev rfl rfl) rfl rfl ?_)
        refine wlOn (e:=148) rfl rfl rfl rfl (omove (v:=.slice p1 n1 c1) rfl rfl (ev rfl rfl) ?_)
        obtain ⟨s13,hs13⟩:∃ z:Int,Hid (cmpN ((rcx (cv L).1 (cv L).2 bd).natAbs) bd = z):=⟨_,rfl⟩
        refine wlOn (e:=148) rfl rfl rfl rfl (ocall rfl rfl Tryz.call20 rfl (wmcmp ((hS.sl 13 rfl).nr hkra) ((hS.sl 15 rfl).nr hkx1) hs13) (args2 (ev rfl rfl) (ev rfl rfl)) ?_)
        rintro _ w31 ⟨_,_,rfl,⟨rfl,rfl⟩,hN⟩
        refine ⟨_,rfl,?_⟩
        replace hS:=hS.news hN; clear hN
        refine wlOn (e:=148) rfl rfl rfl rfl (obin (u:=.int .i64 s13) (v:=.int .i64 0) (z:=.bool true) rfl rfl (ev rfl rfl) evc (bin_leq (decide_eq_true (by rw [← hs13.out]; exact cmpN_not_above ra1))) ?_)
        refine wl rfl (opick (b:=true) (v:=.bool true) rfl rfl (ev rfl rfl) (ev rfl rfl) ?_)
        refine wl rfl (omove (v:=.bool true) rfl rfl (ev rfl rfl) ?_)
        refine wlOn (e:=156) rfl rfl rfl rfl (ofieldAddr (g:=g8) (off:=0) 2 rfl rfl (ev rfl rfl) Tryz.runUnderlying30 rfl Tryz.sizeOf28 rfl ?_)
        refine wlOn (e:=156) rfl rfl rfl rfl (ofieldAddr (g:=g8) (off:=2) 3 rfl rfl (ev rfl rfl) Tryz.runUnderlying28 rfl Tryz.sizeOf26 rfl ?_)
        refine wlOn (e:=156) rfl rfl rfl rfl (oload1 (v:=.slice prb nrb crb) oneN hS 12 rfl rfl (ev rfl rfl) rfl rfl ?_)
        refine wlOn (e:=156) rfl rfl rfl rfl (omove (v:=.slice p1 n1 c1) rfl rfl (ev rfl rfl) ?_)
        obtain ⟨s14,hs14⟩:∃ z:Int,Hid (cmpN ((rcy (cv L).1 (cv L).2 bd).natAbs) bd = z):=⟨_,rfl⟩
        refine wlOn (e:=156) rfl rfl rfl rfl (ocall rfl rfl Tryz.call20 rfl (wmcmp ((hS.sl 14 rfl).nr hkrb) ((hS.sl 15 rfl).nr hkx1) hs14) (args2 (ev rfl rfl) (ev rfl rfl)) ?_)
        rintro _ w32 ⟨_,_,rfl,⟨rfl,rfl⟩,hN⟩
        refine ⟨_,rfl,?_⟩
        replace hS:=hS.news hN; clear hN
        refine wlOn (e:=156) rfl rfl rfl rfl (obin (u:=.int .i64 s14) (v:=.int .i64 0) (z:=.bool true) rfl rfl (ev rfl rfl) evc (bin_leq (decide_eq_true (by rw [← hs14.out]; exact cmpN_not_above ra2))) ?_)
        refine wl rfl (opick (b:=true) (v:=.bool true) rfl rfl (ev rfl rfl) (ev rfl rfl) ?_)
        refine wl rfl (omove (v:=.bool true) rfl rfl (ev rfl rfl) ?_)
        refine wlOn (e:=164) rfl rfl rfl rfl (ocall rfl rfl Tryz.call14 rfl (wlawake6 (ht.at hS)) (args0 ) ?_)
        rintro _ w33 ⟨_,_,rfl,⟨rfl,rfl⟩,hN⟩
        refine ⟨_,rfl,?_⟩
        replace hS:=hS.news hN; clear hN
        refine wl rfl (opick (b:=true) (v:=.bool true) rfl rfl (ev rfl rfl) (ev rfl rfl) ?_)
        refine wl rfl (oassign (v:=.bool true) rfl rfl (ev rfl rfl) ?_)
        refine wnil (thenN ?_)
        refine wleave ?_
        refine wret1 Tryz.results6 (tellT (v:=.bool true) rfl rfl) ?_
        exact ⟨_,_,rfl,isI,hS.new0⟩
     ·
      refine wl rfl (ocall rfl rfl Tryz.call15 rfl (wcreconE (((hS.slm 1 rfl).nr hwV).mono (by omega)) (((hS.slm 2 rfl).nr hwM).mono (by omega)) (((hS.sl 0 rfl).nr hkx1).mono (by omega)) h0) (args3 (ev rfl rfl) (ev rfl rfl) (ev rfl rfl)) ?_)
      rintro _ w7 ⟨_,_,rfl,⟨rfl,rfl⟩,hN⟩
      refine ⟨_,rfl,?_⟩
      replace hS:=hS.news hN; clear hN
      refine wl rfl (omove (v:=.tuple #[.agg #[.bool false,.slice none 0 0,.bool false,.slice none 0 0],.int .i64 (((rce (cv L).1 (cv L).2 bd:Nat):Int))]) rfl rfl (ev rfl rfl) ?_)
      refine wl rfl (oextract (vs:=[.agg #[.bool false,.slice none 0 0,.bool false,.slice none 0 0],.int .i64 (((rce (cv L).1 (cv L).2 bd:Nat):Int))]) (v:=.agg #[.bool false,.slice none 0 0,.bool false,.slice none 0 0]) rfl rfl (ev rfl rfl) rfl ?_)
      refine wl rfl (oextract (vs:=[.agg #[.bool false,.slice none 0 0,.bool false,.slice none 0 0],.int .i64 (((rce (cv L).1 (cv L).2 bd:Nat):Int))]) (v:=.int .i64 (((rce (cv L).1 (cv L).2 bd:Nat):Int))) rfl rfl (ev rfl rfl) rfl ?_)
      refine wl rfl (oalloc [.bool false,.slice none 0 0,.bool false,.slice none 0 0] hS rfl rfl Tryz.zeroValue30 rfl ?_)
      clear hS; intro g8 w9 hS
      refine wl rfl (ostore [.bool false,.slice none 0 0,.bool false,.slice none 0 0] [.bool false,.slice none 0 0,.bool false,.slice none 0 0] Tryz.sizeOf30 hS 0 rfl rfl (ev rfl rfl) (ev (v:=.agg #[.bool false,.slice none 0 0,.bool false,.slice none 0 0]) rfl rfl) rfl rfl rfl rfl rfl rfl ?_)
      clear hS; intro w10 hS
      refine wl rfl (oassign (v:=.int .i64 (((rce (cv L).1 (cv L).2 bd:Nat):Int))) rfl rfl (ev rfl rfl) ?_)
      refine wnil (thenN (wseq (wreg (wl rfl (omove (v:=.slice p1 n1 c1) rfl rfl (ev rfl rfl) ?_)))))
      refine wl rfl (omove (v:=.slice p1 n1 c1) rfl rfl (ev rfl rfl) ?_)
      obtain ⟨x2,hx2⟩:∃ x:Nat,Hid (bd * bd = x):=⟨_,rfl⟩
      have hkx2:ll x2 ≤ 4:=Nd.mul hkx1 hkx1 hx2 (by omega)
      refine wl rfl (ocall rfl rfl Tryz.call26 rfl (wmmul (((hS.sl 1 rfl).nr hkx1).mono (by omega)) (((hS.sl 1 rfl).nr hkx1).mono (by omega)) hx2) (args2 (ev rfl rfl) (ev rfl rfl)) ?_)
      rintro _ w11 ⟨_,_,rfl,⟨p2,n2,c2,rfl,rfl⟩,hN⟩
      refine ⟨_,rfl,?_⟩
      replace hS:=hS.news hN; clear hN
      refine wl rfl (oassign (v:=.slice p2 n2 c2) rfl rfl (ev rfl rfl) ?_)
      refine wnil (thenN (wseq (wseq (wreg (wl rfl (omove (v:=.slice p2 n2 c2) rfl rfl (ev rfl rfl) ?_))))))
      refine wl rfl (omove (v:=.slice p2 n2 c2) rfl rfl (ev rfl rfl) ?_)
      obtain ⟨x3,hx3⟩:∃ x:Nat,Hid (x2 + x2 = x):=⟨_,rfl⟩
      have hkx3:ll x3 ≤ 5:=Nd.add hkx2 hkx2 hx3 (by omega)
      refine wl rfl (ocall rfl rfl Tryz.call27 rfl (wmadd (((hS.sl 0 rfl).nr hkx2).mono (by omega)) (((hS.sl 0 rfl).nr hkx2).mono (by omega)) hx3) (args2 (ev rfl rfl) (ev rfl rfl)) ?_)
      rintro _ w12 ⟨_,_,rfl,⟨p3,n3,c3,rfl,rfl⟩,hN⟩
      refine ⟨_,rfl,?_⟩
      replace hS:=hS.news hN; clear hN
      refine wl rfl (omove (v:=.slice pM nM cM) rfl rfl (ev rfl rfl) ?_)
      obtain ⟨s4,hs4⟩:∃ z:Int,Hid (cmpN x3 ((cv L).2) = z):=⟨_,rfl⟩
      refine wl rfl (ocall rfl rfl Tryz.call20 rfl (wmcmp ((hS.sl 0 rfl).nr hkx3) ((hS.slm 5 rfl).nr hwM) hs4) (args2 (ev rfl rfl) (ev rfl rfl)) ?_)
      rintro _ w13 ⟨_,_,rfl,⟨rfl,rfl⟩,hN⟩
      refine ⟨_,rfl,?_⟩
      replace hS:=hS.news hN; clear hN
      have hq2:=hx2.out
      have hq3:=hx3.out
      refine wl rfl (obin (u:=.int .i64 s4) (v:=.int .i64 0) (z:=.bool false) rfl rfl (ev rfl rfl) evc (bin_geq (decide_eq_false (by rw [← hs4.out]; have:=cmpN_below (show x3 < (cv L).2 by omega); omega))) ?_)
      refine wnil (thenN ?_)
      refine wF (ev rfl rfl) ?_
      refine wskip (thenN (wseq (wreg (wl rfl (oload (vs:=[.bool bA,.slice qA nA kA,.bool bB,.slice qB nB kB]) aggR hS 7 rfl rfl (ev rfl rfl) rfl rfl rfl ?_)))))
      obtain ⟨z5,hz5⟩:∃ z:Int,Hid (RN x y = z):=⟨_,rfl⟩
      have hk5:Wd z5 2097152:=Wd.rn hA.wd hz5
      obtain ⟨z6,hz6⟩:∃ z:Int,Hid (RD x y = z):=⟨_,rfl⟩
      have hk6:Wd z6 2097152:=Wd.rd hB.wd hz6
      refine wl rfl (ocall rfl rfl Tryz.call28 rfl ((wsnorm ((hA.at hS).mono (by omega)) ((hB.at hS).mono (by omega)) (hy0) hz5 hz6)) (args1 (ev rfl rfl)) ?_)
      rintro _ w14 ⟨_,_,rfl,⟨p5,n5,c5,p6,n6,c6,rfl,rfl⟩,hN⟩
      refine ⟨_,rfl,?_⟩
      replace hS:=hS.news hN; clear hN
      refine wl rfl (oalloc [.bool false,.slice none 0 0,.bool false,.slice none 0 0] hS rfl rfl Tryz.zeroValue30 rfl ?_)
      clear hS; intro g15 w16 hS
      refine wl rfl (ostore [.bool (ng z5),.slice p5 n5 c5,.bool (ng z6),.slice p6 n6 c6] [.bool (ng z5),.slice p5 n5 c5,.bool (ng z6),.slice p6 n6 c6] Tryz.sizeOf30 hS 0 rfl rfl (ev rfl rfl) (ev (v:=.agg #[.bool (ng z5),.slice p5 n5 c5,.bool (ng z6),.slice p6 n6 c6]) rfl rfl) rfl rfl rfl rfl rfl rfl ?_)
      clear hS; intro w17 hS
      refine wnil (thenN (wseq (wseq (wreg (wl rfl (ofieldAddr (g:=g15) (off:=0) 0 rfl rfl (ev rfl rfl) Tryz.runUnderlying30 rfl Tryz.sizeOf28 rfl ?_))))))
      refine wl rfl (ofieldAddr (g:=g15) (off:=0) 1 rfl rfl (ev rfl rfl) Tryz.runUnderlying28 rfl Tryz.sizeOf26 rfl ?_)
      refine wl rfl (oload1 (v:=.slice p5 n5 c5) oneN hS 0 rfl rfl (ev rfl rfl) rfl rfl ?_)
      refine wl rfl (omove (v:=.slice p1 n1 c1) rfl rfl (ev rfl rfl) ?_)
      obtain ⟨s7,hs7⟩:∃ z:Int,Hid (cmpN z5.natAbs bd = z):=⟨_,rfl⟩
      refine wl rfl (ocall rfl rfl Tryz.call20 rfl (wmcmp ((hS.slm 1 rfl).nr hk5) ((hS.sl 6 rfl).nr hkx1) hs7) (args2 (ev rfl rfl) (ev rfl rfl)) ?_)
      rintro _ w18 ⟨_,_,rfl,⟨rfl,rfl⟩,hN⟩
      refine ⟨_,rfl,?_⟩
      replace hS:=hS.news hN; clear hN
      by_cases hn1:z5.natAbs ≤ bd
      ·
       refine wl rfl (obin (u:=.int .i64 s7) (v:=.int .i64 0) (z:=.bool true) rfl rfl (ev rfl rfl) evc (bin_leq (decide_eq_true (by rw [← hs7.out]; exact cmpN_not_above hn1))) ?_)
       refine wl rfl (omove (v:=.bool true) rfl rfl (ev rfl rfl) ?_)
       refine wlOn (e:=102) rfl rfl rfl rfl (ofieldAddr (g:=g15) (off:=0) 2 rfl rfl (ev rfl rfl) Tryz.runUnderlying30 rfl Tryz.sizeOf28 rfl ?_)
       refine wlOn (e:=102) rfl rfl rfl rfl (ofieldAddr (g:=g15) (off:=2) 3 rfl rfl (ev rfl rfl) Tryz.runUnderlying28 rfl Tryz.sizeOf26 rfl ?_)
       refine wlOn (e:=102) rfl rfl rfl rfl (oload1 (v:=.slice p6 n6 c6) oneN hS 0 rfl rfl (ev rfl rfl) rfl rfl ?_)
       refine wlOn (e:=102) rfl rfl rfl rfl (omove (v:=.slice p1 n1 c1) rfl rfl (ev rfl rfl) ?_)
       obtain ⟨s8,hs8⟩:∃ z:Int,Hid (cmpN z6.natAbs bd = z):=⟨_,rfl⟩
       refine wlOn (e:=102) rfl rfl rfl rfl (ocall rfl rfl Tryz.call20 rfl (wmcmp ((hS.slm 2 rfl).nr hk6) ((hS.sl 6 rfl).nr hkx1) hs8) (args2 (ev rfl rfl) (ev rfl rfl)) ?_)
       rintro _ w19 ⟨_,_,rfl,⟨rfl,rfl⟩,hN⟩
       refine ⟨_,rfl,?_⟩
       replace hS:=hS.news hN; clear hN
       by_cases hn2:z6.natAbs ≤ bd
       ·
        refine wlOn (e:=102) rfl rfl rfl rfl (obin (u:=.int .i64 s8) (v:=.int .i64 0) (z:=.bool true) rfl rfl (ev rfl rfl) evc (bin_leq (decide_eq_true (by rw [← hs8.out]; exact cmpN_not_above hn2))) ?_)
        refine wl rfl (opick (b:=true) (v:=.bool true) rfl rfl (ev rfl rfl) (ev rfl rfl) ?_)
        refine wnil (thenN ?_)
        refine wT (ev rfl rfl) ?_
        refine wseq (wreg (wl rfl (omove (v:=.int .i64 (((rce (cv L).1 (cv L).2 bd:Nat):Int))) rfl rfl (ev rfl rfl) ?_)))
        refine wl rfl (ocall rfl rfl Tryz.call13 rfl (wlnum6) (args1 (ev rfl rfl)) ?_)
        rintro _ w20 ⟨_,_,rfl,⟨rfl,rfl⟩,hN⟩
        refine ⟨_,rfl,?_⟩
        replace hS:=hS.news hN; clear hN
        obtain ⟨f0,f1,f2⟩:=fr_found hy0 hgd hL.out hg hbm (by rw [hz5.out]; exact hn1) (by rw [hz6.out]; exact hn2)
        exact absurd f0 h0
       ·
        refine wlOn (e:=102) rfl rfl rfl rfl (obin (u:=.int .i64 s8) (v:=.int .i64 0) (z:=.bool false) rfl rfl (ev rfl rfl) evc (bin_leq (decide_eq_false (by rw [← hs8.out]; have:=cmpN_above (show bd < z6.natAbs by omega); omega))) ?_)
        refine wl rfl (opick (b:=true) (v:=.bool false) rfl rfl (ev rfl rfl) (ev rfl rfl) ?_)
        refine wnil (thenN ?_)
        refine wF (ev rfl rfl) ?_
        refine wskip (thenN (wseq (wseq (wreg (wl rfl (omove (v:=.int .i64 (((rce (cv L).1 (cv L).2 bd:Nat):Int))) rfl rfl (ev rfl rfl) ?_))))))
        refine wl rfl (ocall rfl rfl Tryz.call13 rfl (wlnum6) (args1 (ev rfl rfl)) ?_)
        rintro _ w20 ⟨_,_,rfl,⟨rfl,rfl⟩,hN⟩
        refine ⟨_,rfl,?_⟩
        replace hS:=hS.news hN; clear hN
        have h61:=rce_61' (cv_lt hg) hbm h0
        refine wl rfl (obin (u:=.int .i64 (((rce (cv L).1 (cv L).2 bd:Nat):Int))) (v:=.int .i64 0) (z:=.bool true) rfl rfl (ev rfl rfl) evc (bin_neq (neT (by omega))) ?_)
        refine wnil (thenN ?_)
        refine wT (ev rfl rfl) ?_
        refine wseq (wreg (wl rfl (omove (v:=.int .i64 (((rce (cv L).1 (cv L).2 bd:Nat):Int))) rfl rfl (ev rfl rfl) ?_)))
        refine wl rfl (ocall rfl rfl Tryz.call13 rfl (wlnum6) (args1 (ev rfl rfl)) ?_)
        rintro _ w21 ⟨_,_,rfl,⟨rfl,rfl⟩,hN⟩
        refine ⟨_,rfl,?_⟩
        replace hS:=hS.news hN; clear hN
        refine wl rfl (obin (u:=.int .i64 (((rce (cv L).1 (cv L).2 bd:Nat):Int))) (v:=.int .i64 61) (z:=.bool true) rfl rfl (ev rfl rfl) evc (bin_eql (eqT (by omega))) ?_)
        refine wl rfl (omove (v:=.bool true) rfl rfl (ev rfl rfl) ?_)
        refine wlOn (e:=127) rfl rfl rfl rfl (ocall rfl rfl Tryz.call14 rfl (wlawake6 (ht.at hS)) (args0 ) ?_)
        rintro _ w22 ⟨_,_,rfl,⟨rfl,rfl⟩,hN⟩
        refine ⟨_,rfl,?_⟩
        replace hS:=hS.news hN; clear hN
        refine wl rfl (opick (b:=true) (v:=.bool true) rfl rfl (ev rfl rfl) (ev rfl rfl) ?_)
        refine wl rfl (oassign (v:=.bool true) rfl rfl (ev rfl rfl) ?_)
        refine wnil (thenN ?_)
        refine wleave ?_
        refine thenR ?_
        refine wret1 Tryz.results6 (tellT (v:=.bool true) rfl rfl) ?_
        exact ⟨_,_,rfl,isI,hS.new0⟩
      ·
       refine wl rfl (obin (u:=.int .i64 s7) (v:=.int .i64 0) (z:=.bool false) rfl rfl (ev rfl rfl) evc (bin_leq (decide_eq_false (by rw [← hs7.out]; have:=cmpN_above (show bd < z5.natAbs by omega); omega))) ?_)
       refine wl rfl (omove (v:=.bool false) rfl rfl (ev rfl rfl) ?_)
       refine wlOff (e:=102) (d:=103) (b':=false) rfl rfl rfl rfl rfl rfl ?_
       refine wlOff (e:=102) (d:=104) (b':=false) rfl rfl rfl rfl rfl rfl ?_
       refine wlOff (e:=102) (d:=105) (b':=false) rfl rfl rfl rfl rfl rfl ?_
       refine wlOff (e:=102) (d:=106) (b':=false) rfl rfl rfl rfl rfl rfl ?_
       refine wlOff (e:=102) (d:=107) (b':=false) rfl rfl rfl rfl rfl rfl ?_
       refine wlOff (e:=102) (d:=108) (b':=false) rfl rfl rfl rfl rfl rfl ?_
       refine wl rfl (opick (b:=false) (v:=.bool false) rfl rfl (ev rfl rfl) evc ?_)
       refine wnil (thenN ?_)
       refine wF (ev rfl rfl) ?_
       refine wskip (thenN (wseq (wseq (wreg (wl rfl (omove (v:=.int .i64 (((rce (cv L).1 (cv L).2 bd:Nat):Int))) rfl rfl (ev rfl rfl) ?_))))))
       refine wl rfl (ocall rfl rfl Tryz.call13 rfl (wlnum6) (args1 (ev rfl rfl)) ?_)
       rintro _ w19 ⟨_,_,rfl,⟨rfl,rfl⟩,hN⟩
       refine ⟨_,rfl,?_⟩
       replace hS:=hS.news hN; clear hN
       have h61:=rce_61' (cv_lt hg) hbm h0
       refine wl rfl (obin (u:=.int .i64 (((rce (cv L).1 (cv L).2 bd:Nat):Int))) (v:=.int .i64 0) (z:=.bool true) rfl rfl (ev rfl rfl) evc (bin_neq (neT (by omega))) ?_)
       refine wnil (thenN ?_)
       refine wT (ev rfl rfl) ?_
       refine wseq (wreg (wl rfl (omove (v:=.int .i64 (((rce (cv L).1 (cv L).2 bd:Nat):Int))) rfl rfl (ev rfl rfl) ?_)))
       refine wl rfl (ocall rfl rfl Tryz.call13 rfl (wlnum6) (args1 (ev rfl rfl)) ?_)
       rintro _ w20 ⟨_,_,rfl,⟨rfl,rfl⟩,hN⟩
       refine ⟨_,rfl,?_⟩
       replace hS:=hS.news hN; clear hN
       refine wl rfl (obin (u:=.int .i64 (((rce (cv L).1 (cv L).2 bd:Nat):Int))) (v:=.int .i64 61) (z:=.bool true) rfl rfl (ev rfl rfl) evc (bin_eql (eqT (by omega))) ?_)
       refine wl rfl (omove (v:=.bool true) rfl rfl (ev rfl rfl) ?_)
       refine wlOn (e:=127) rfl rfl rfl rfl (ocall rfl rfl Tryz.call14 rfl (wlawake6 (ht.at hS)) (args0 ) ?_)
       rintro _ w21 ⟨_,_,rfl,⟨rfl,rfl⟩,hN⟩
       refine ⟨_,rfl,?_⟩
       replace hS:=hS.news hN; clear hN
       refine wl rfl (opick (b:=true) (v:=.bool true) rfl rfl (ev rfl rfl) (ev rfl rfl) ?_)
       refine wl rfl (oassign (v:=.bool true) rfl rfl (ev rfl rfl) ?_)
       refine wnil (thenN ?_)
       refine wleave ?_
       refine thenR ?_
       refine wret1 Tryz.results6 (tellT (v:=.bool true) rfl rfl) ?_
       exact ⟨_,_,rfl,isI,hS.new0⟩
    ·
     have h1:=rce_1 (v:=(cv L).1) (m:=(cv L).2) (b:=bd) (fun h => hbm h.2)
     have h0:rce (cv L).1 (cv L).2 bd ≠ 0:=by omega
     refine wl rfl (ocall rfl rfl Tryz.call15 rfl (wcreconE (((hS.slm 1 rfl).nr hwV).mono (by omega)) (((hS.slm 2 rfl).nr hwM).mono (by omega)) (((hS.sl 0 rfl).nr hkx1).mono (by omega)) h0) (args3 (ev rfl rfl) (ev rfl rfl) (ev rfl rfl)) ?_)
     rintro _ w7 ⟨_,_,rfl,⟨rfl,rfl⟩,hN⟩
     refine ⟨_,rfl,?_⟩
     replace hS:=hS.news hN; clear hN
     refine wl rfl (omove (v:=.tuple #[.agg #[.bool false,.slice none 0 0,.bool false,.slice none 0 0],.int .i64 (((rce (cv L).1 (cv L).2 bd:Nat):Int))]) rfl rfl (ev rfl rfl) ?_)
     refine wl rfl (oextract (vs:=[.agg #[.bool false,.slice none 0 0,.bool false,.slice none 0 0],.int .i64 (((rce (cv L).1 (cv L).2 bd:Nat):Int))]) (v:=.agg #[.bool false,.slice none 0 0,.bool false,.slice none 0 0]) rfl rfl (ev rfl rfl) rfl ?_)
     refine wl rfl (oextract (vs:=[.agg #[.bool false,.slice none 0 0,.bool false,.slice none 0 0],.int .i64 (((rce (cv L).1 (cv L).2 bd:Nat):Int))]) (v:=.int .i64 (((rce (cv L).1 (cv L).2 bd:Nat):Int))) rfl rfl (ev rfl rfl) rfl ?_)
     refine wl rfl (oalloc [.bool false,.slice none 0 0,.bool false,.slice none 0 0] hS rfl rfl Tryz.zeroValue30 rfl ?_)
     clear hS; intro g8 w9 hS
     refine wl rfl (ostore [.bool false,.slice none 0 0,.bool false,.slice none 0 0] [.bool false,.slice none 0 0,.bool false,.slice none 0 0] Tryz.sizeOf30 hS 0 rfl rfl (ev rfl rfl) (ev (v:=.agg #[.bool false,.slice none 0 0,.bool false,.slice none 0 0]) rfl rfl) rfl rfl rfl rfl rfl rfl ?_)
     clear hS; intro w10 hS
     refine wl rfl (oassign (v:=.int .i64 (((rce (cv L).1 (cv L).2 bd:Nat):Int))) rfl rfl (ev rfl rfl) ?_)
     refine wnil (thenN (wseq (wreg (wl rfl (omove (v:=.slice p1 n1 c1) rfl rfl (ev rfl rfl) ?_)))))
     refine wl rfl (omove (v:=.slice p1 n1 c1) rfl rfl (ev rfl rfl) ?_)
     obtain ⟨x2,hx2⟩:∃ x:Nat,Hid (bd * bd = x):=⟨_,rfl⟩
     have hkx2:ll x2 ≤ 4:=Nd.mul hkx1 hkx1 hx2 (by omega)
     refine wl rfl (ocall rfl rfl Tryz.call26 rfl (wmmul (((hS.sl 1 rfl).nr hkx1).mono (by omega)) (((hS.sl 1 rfl).nr hkx1).mono (by omega)) hx2) (args2 (ev rfl rfl) (ev rfl rfl)) ?_)
     rintro _ w11 ⟨_,_,rfl,⟨p2,n2,c2,rfl,rfl⟩,hN⟩
     refine ⟨_,rfl,?_⟩
     replace hS:=hS.news hN; clear hN
     refine wl rfl (oassign (v:=.slice p2 n2 c2) rfl rfl (ev rfl rfl) ?_)
     refine wnil (thenN (wseq (wseq (wreg (wl rfl (omove (v:=.slice p2 n2 c2) rfl rfl (ev rfl rfl) ?_))))))
     refine wl rfl (omove (v:=.slice p2 n2 c2) rfl rfl (ev rfl rfl) ?_)
     obtain ⟨x3,hx3⟩:∃ x:Nat,Hid (x2 + x2 = x):=⟨_,rfl⟩
     have hkx3:ll x3 ≤ 5:=Nd.add hkx2 hkx2 hx3 (by omega)
     refine wl rfl (ocall rfl rfl Tryz.call27 rfl (wmadd (((hS.sl 0 rfl).nr hkx2).mono (by omega)) (((hS.sl 0 rfl).nr hkx2).mono (by omega)) hx3) (args2 (ev rfl rfl) (ev rfl rfl)) ?_)
     rintro _ w12 ⟨_,_,rfl,⟨p3,n3,c3,rfl,rfl⟩,hN⟩
     refine ⟨_,rfl,?_⟩
     replace hS:=hS.news hN; clear hN
     refine wl rfl (omove (v:=.slice pM nM cM) rfl rfl (ev rfl rfl) ?_)
     obtain ⟨s4,hs4⟩:∃ z:Int,Hid (cmpN x3 ((cv L).2) = z):=⟨_,rfl⟩
     refine wl rfl (ocall rfl rfl Tryz.call20 rfl (wmcmp ((hS.sl 0 rfl).nr hkx3) ((hS.slm 5 rfl).nr hwM) hs4) (args2 (ev rfl rfl) (ev rfl rfl)) ?_)
     rintro _ w13 ⟨_,_,rfl,⟨rfl,rfl⟩,hN⟩
     refine ⟨_,rfl,?_⟩
     replace hS:=hS.news hN; clear hN
     have hq2:=hx2.out
     have hq3:=hx3.out
     refine wl rfl (obin (u:=.int .i64 s4) (v:=.int .i64 0) (z:=.bool true) rfl rfl (ev rfl rfl) evc (bin_geq (decide_eq_true (by rw [← hs4.out]; exact cmpN_not_below (by omega)))) ?_)
     refine wnil (thenN ?_)
     refine wT (ev rfl rfl) ?_
     refine wseq (wreg (wl rfl (omove (v:=.int .i64 (((rce (cv L).1 (cv L).2 bd:Nat):Int))) rfl rfl (ev rfl rfl) ?_)))
     refine wl rfl (ocall rfl rfl Tryz.call13 rfl (wlnum6) (args1 (ev rfl rfl)) ?_)
     rintro _ w14 ⟨_,_,rfl,⟨rfl,rfl⟩,hN⟩
     refine ⟨_,rfl,?_⟩
     replace hS:=hS.news hN; clear hN
     refine wl rfl (obin (u:=.int .i64 (((rce (cv L).1 (cv L).2 bd:Nat):Int))) (v:=.int .i64 1) (z:=.bool true) rfl rfl (ev rfl rfl) evc (bin_eql (eqT (by omega))) ?_)
     refine wl rfl (omove (v:=.bool true) rfl rfl (ev rfl rfl) ?_)
     refine wlOn (e:=91) rfl rfl rfl rfl (ocall rfl rfl Tryz.call14 rfl (wlawake6 (ht.at hS)) (args0 ) ?_)
     rintro _ w15 ⟨_,_,rfl,⟨rfl,rfl⟩,hN⟩
     refine ⟨_,rfl,?_⟩
     replace hS:=hS.news hN; clear hN
     refine wl rfl (opick (b:=true) (v:=.bool true) rfl rfl (ev rfl rfl) (ev rfl rfl) ?_)
     refine wl rfl (oassign (v:=.bool true) rfl rfl (ev rfl rfl) ?_)
     refine wnil (thenN ?_)
     refine wleave ?_
     refine thenR ?_
     refine wret1 Tryz.results6 (tellT (v:=.bool true) rfl rfl) ?_
     exact ⟨_,_,rfl,isI,hS.new0⟩
  ·
   refine wl rfl (ocall rfl rfl Tryz.call18 rfl (wcofE (ht.at hS) (hS.rsl 0 rfl hLn) h32 (by omega) hc) (args1 (ev rfl rfl)) ?_)
   rintro _ w4 ⟨_,_,rfl,⟨rfl,rfl⟩,hN⟩
   refine ⟨_,rfl,?_⟩
   replace hS:=hS.news hN; clear hN
   refine wl rfl (omove (v:=.tuple #[.slice none 0 0,.slice none 0 0,.int .i64 (((code [] L:Nat):Int))]) rfl rfl (ev rfl rfl) ?_)
   refine wl rfl (oextract (vs:=[.slice none 0 0,.slice none 0 0,.int .i64 (((code [] L:Nat):Int))]) (v:=.slice none 0 0) rfl rfl (ev rfl rfl) rfl ?_)
   refine wl rfl (oextract (vs:=[.slice none 0 0,.slice none 0 0,.int .i64 (((code [] L:Nat):Int))]) (v:=.slice none 0 0) rfl rfl (ev rfl rfl) rfl ?_)
   refine wl rfl (oextract (vs:=[.slice none 0 0,.slice none 0 0,.int .i64 (((code [] L:Nat):Int))]) (v:=.int .i64 (((code [] L:Nat):Int))) rfl rfl (ev rfl rfl) rfl ?_)
   refine wl rfl (oassign (v:=.slice none 0 0) rfl rfl (ev rfl rfl) ?_)
   refine wl rfl (oassign (v:=.slice none 0 0) rfl rfl (ev rfl rfl) ?_)
   refine wl rfl (oassign (v:=.int .i64 (((code [] L:Nat):Int))) rfl rfl (ev rfl rfl) ?_)
   refine wnil (thenN (wseq (wseq (wreg (wl rfl (omove (v:=.int .i64 (((code [] L:Nat):Int))) rfl rfl (ev rfl rfl) ?_))))))
   refine wl rfl (ocall rfl rfl Tryz.call13 rfl (wlnum6) (args1 (ev rfl rfl)) ?_)
   rintro _ w5 ⟨_,_,rfl,⟨rfl,rfl⟩,hN⟩
   refine ⟨_,rfl,?_⟩
   replace hS:=hS.news hN; clear hN
   refine wl rfl (obin (u:=.int .i64 (((code [] L:Nat):Int))) (v:=.int .i64 0) (z:=.bool true) rfl rfl (ev rfl rfl) evc (bin_neq (neT (by omega))) ?_)
   refine wl rfl (omove (v:=.bool true) rfl rfl (ev rfl rfl) ?_)
   refine wlOff (e:=63) (d:=64) (b':=true) rfl rfl rfl rfl rfl rfl ?_
   refine wlOff (e:=63) (d:=65) (b':=true) rfl rfl rfl rfl rfl rfl ?_
   refine wlOff (e:=63) (d:=66) (b':=true) rfl rfl rfl rfl rfl rfl ?_
   refine wl rfl (opick (b:=true) (v:=.bool true) rfl rfl (ev rfl rfl) evc ?_)
   refine wnil (thenN ?_)
   refine wT (ev rfl rfl) ?_
   refine wseq (wreg (wl rfl (ocall rfl rfl Tryz.call14 rfl (wlawake6 (ht.at hS)) (args0 ) ?_)))
   rintro _ w6 ⟨_,_,rfl,⟨rfl,rfl⟩,hN⟩
   refine ⟨_,rfl,?_⟩
   replace hS:=hS.news hN; clear hN
   refine wl rfl (oassign (v:=.bool true) rfl rfl (ev rfl rfl) ?_)
   refine wnil (thenN ?_)
   refine wleave ?_
   refine thenR ?_
   refine wret1 Tryz.results6 (tellT (v:=.bool true) rfl rfl) ?_
   exact ⟨_,_,rfl,isI,hS.new0⟩
theorem crtFractions_walk {bA bB:Bool} {qA qB pl:Option Addr} {nA kA nB kB nl cl:Nat} {s2:Int} {xa xb us:List Nat} {w:World} (hA:Sl w qA nA kA xa) (hB:Sl w qB nB kB xb) (hl:Sl w pl nl cl us) (h1:Tab w) (h2:Bases w) (b1:nA + nB ≤ 2097152) (b2:nl ≤ 1048576) (b3:0 ≤ s2 ∧ s2 ≤ 4294967295):Calls Tryz.prog 6 #[.agg #[.bool bA,.slice qA nA kA,.bool bB,.slice qB nB kB],.slice pl nl cl,.int .u32 s2] w (RetB w true):=by
  obtain ⟨bd,rfl⟩:=Int.eq_ofNat_of_zero_le b3.1
  exact Ret.bool (crtFractions_walk0 ⟨h1,h2⟩ ⟨xa,hA,rfl,by omega⟩ ⟨xb,hB,rfl,by omega⟩ hl b2 (by omega))
end Go.Proofs.YtjbcjlbbipohjaaGreatDoor
