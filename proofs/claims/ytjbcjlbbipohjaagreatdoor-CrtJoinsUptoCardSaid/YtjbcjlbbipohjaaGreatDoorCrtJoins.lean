
/-
  The walks of crt.Join, the document's, and similelaw06.CrtJoins.
-/
import Derived.Test.YtjbcjlbbipohjaaGreatDoorCrt4
import Derived.Test.YtjbcjlbbipohjaaGreatDoorLT
set_option linter.unusedVariables false
set_option linter.unusedSimpArgs false
set_option maxRecDepth 100000
set_option maxHeartbeats 16000000
namespace Go.Proofs.YtjbcjlbbipohjaaGreatDoor
open Go.RowKit
def JK (a m b n K:Nat):Prop:=K < n ∧ ((n:Nat):Int) ∣ ((m:Nat):Int) * ((K:Nat):Int) - (((b:Nat):Int) - ((a:Nat):Int))
theorem jk_uniq {a m b n K L:Nat} (hg:Nat.gcd m n = 1) (h:JK a m b n K) (h2:JK a m b n L):K = L:=by
 have h3:((n:Nat):Int) ∣ ((m:Nat):Int) * (((K:Nat):Int) - ((L:Nat):Int)):=by
  have:=Int.dvd_sub h.2 h2.2
  rw [Int.mul_sub]
  rwa [show ((m:Nat):Int) * K - ((b:Nat) - (a:Nat)) - ((m:Nat) * L - ((b:Nat) - (a:Nat))) = ((m:Nat):Int) * K - (m:Nat) * L by omega] at this
 have h4:=Int.natAbs_dvd_natAbs.2 h3
 rw [Int.natAbs_mul,Int.natAbs_natCast,Int.natAbs_natCast] at h4
 have h5:=(show Nat.Coprime n m from by show Nat.gcd n m = 1; rw [Nat.gcd_comm]; exact hg).dvd_of_dvd_mul_left h4
 have h6:=Nat.eq_zero_of_dvd_of_lt h5 (by have:=h.1; have:=h2.1; omega)
 omega
theorem jk_of {a m b n:Nat} {u v o p k:Int} (hb:Bez ((m:Nat):Int) ((n:Nat):Int) u v) (hg:Nat.gcd m n = 1) (hn:0 < n) (ho:Hid (((b:Nat):Int) - ((a:Nat):Int) = o)) (hp:Hid (o * u = p)) (hk:Hid (p % ((n:Nat):Int) = k)):JK a m b n k.natAbs:=by
 have h0:=Int.emod_nonneg p (b:=((n:Nat):Int)) (by omega)
 have h1:=Int.emod_lt_of_pos p (b:=((n:Nat):Int)) (by omega)
 rw [hk.out] at h0 h1
 refine ⟨by omega,?_⟩
 have h2:=hb.1
 rw [show Int.gcd ((m:Nat):Int) ((n:Nat):Int) = Nat.gcd m n from rfl,hg] at h2
 have h3:=Int.emod_add_mul_ediv p ((n:Nat):Int)
 rw [hk.out] at h3
 refine ⟨-(o * v + (m:Nat) * (p / (n:Int))),?_⟩
 rw [show ((k.natAbs:Nat):Int) = k by omega,ho.out]
 have h4:k = o * u - ((n:Nat):Int) * (p / ((n:Nat):Int)):=by rw [hp.out]; omega
 have h5:((m:Nat):Int) * u = 1 - ((n:Nat):Int) * v:=by
  have:((1:Nat):Int) = 1:=rfl
  omega
 rw [h4]
 generalize p / ((n:Nat):Int) = t
 grind
theorem jk_some {a m b n:Nat} (hg:Nat.gcd m n = 1) (hn:0 < n):∃ K,JK a m b n K:=by
 obtain ⟨u,v,h⟩:=bezout_nat m n
 refine ⟨(((b:Int) - a) * u % n).natAbs,?_⟩
 have h0:=Int.emod_nonneg ((((b:Nat):Int) - a) * u) (b:=((n:Nat):Int)) (by omega)
 have h1:=Int.emod_lt_of_pos ((((b:Nat):Int) - a) * u) (b:=((n:Nat):Int)) (by omega)
 refine ⟨by omega,?_⟩
 have h3:=Int.emod_add_mul_ediv ((((b:Nat):Int) - a) * u) ((n:Nat):Int)
 rw [hg] at h
 rw [show ((((((b:Nat):Int) - a) * u % n).natAbs:Nat):Int) = (((b:Nat):Int) - a) * u % n by omega]
 generalize (((b:Nat):Int) - a) * u / n = t at h3
 refine ⟨-(((b:Int) - a) * v + m * t),?_⟩
 have h4:(((b:Nat):Int) - a) * u % n = (((b:Nat):Int) - a) * u - n * t:=by omega
 rw [h4]
 have h5:((m:Nat):Int) * u = 1 - ((n:Nat):Int) * v:=by
  have:((1:Nat):Int) = 1:=rfl
  omega
 grind
theorem Bez.bd {a b x y:Int} (h:Bez a b x y) (hb:b ≠ 0):x.natAbs ≤ b.natAbs:=by
  obtain ⟨_,h0,h1⟩:=h
  have hg:0 < Int.gcd a b:=Int.gcd_pos_of_ne_zero_right _ hb
  have h2:x * 1 ≤ x * (Int.gcd a b:Int):=Int.mul_le_mul_of_nonneg_left (by omega) h0
  omega
def jne (a m b n:Nat):Nat:=if a < m ∧ b < n then (if Nat.gcd m n = 1 then 0 else 60) else 1
theorem jne_1 {a m b n:Nat} (h:¬ (a < m ∧ b < n)):jne a m b n = 1:=if_neg h
theorem jne_60 {a m b n:Nat} (ha:a < m) (hb:b < n) (hg:Nat.gcd m n ≠ 1):jne a m b n = 60:=by unfold jne; rw [if_pos ⟨ha,hb⟩,if_neg hg]
def JnT (a m b n:Nat):Tell:=fun u r => ∀ K,(a < m ∧ b < n ∧ Nat.gcd m n = 1 ∧ JK a m b n K) → NNEt (a + m * K) (m * n) 0 u r
theorem wcjoin {pa pm pb pn:Option Addr} {na ca nm cm nb cb nn cn a m b n:Nat} {w:World} (ha:Nr w pa na ca a 2097152) (hm:Nr w pm nm cm m 2097152) (hb:Nr w pb nb cb b 2097152) (hn:Nr w pn nn cn n 2097152) (hla:a < m) (hlb:b < n) (hg:Nat.gcd m n = 1) {K:Nat} (hK:JK a m b n K) :
  Calls Tryz.prog 48 #[.slice pa na ca,.slice pm nm cm,.slice pb nb cb,.slice pn nn cn] w (Ret (NNEt (a + m * K) (m * n) 0) w):=by
 have hza:=ha.zr
 have hzm:=hm.zr
 have hzb:=hb.zr
 have hzn:=hn.zr
 have hS:=Sep.init w
 refine went Tryz.func48 rfl (n:=65) rfl rfl ?_
 refine wseq (wreg (wl rfl (oassign (v:=.slice none 0 0) rfl rfl evc ?_)))
 refine wl rfl (oassign (v:=.slice none 0 0) rfl rfl evc ?_)
 refine wl rfl (oassign (v:=.int .i64 0) rfl rfl evc ?_)
 refine wnil (thenN (wseq (wseq (wreg (wl rfl (omove (v:=.slice pa na ca) rfl rfl (ev rfl rfl) ?_))))))
 refine wl rfl (omove (v:=.slice pm nm cm) rfl rfl (ev rfl rfl) ?_)
 obtain ⟨s1,hs1⟩:∃ z:Int,Hid (cmpN a m = z):=⟨_,rfl⟩
 refine wl rfl (ocall rfl rfl Tryz.call57 rfl (wncmp (ha.at hS) (hm.at hS) hs1) (args2 (ev rfl rfl) (ev rfl rfl)) ?_)
 rintro _ w1 ⟨_,_,rfl,⟨rfl,rfl⟩,hN⟩
 refine ⟨_,rfl,?_⟩
 replace hS:=hS.news hN; clear hN
 refine wl rfl (obin (u:=.int .i64 s1) (v:=.int .i64 0) (z:=.bool false) rfl rfl (ev rfl rfl) evc (bin_geq (decide_eq_false (by rw [← hs1.out]; have:=cmpN_below hla; omega))) ?_)
 refine wl rfl (omove (v:=.bool false) rfl rfl (ev rfl rfl) ?_)
 refine wlOn (e:=22) rfl rfl rfl rfl (omove (v:=.slice pb nb cb) rfl rfl (ev rfl rfl) ?_)
 refine wlOn (e:=22) rfl rfl rfl rfl (omove (v:=.slice pn nn cn) rfl rfl (ev rfl rfl) ?_)
 obtain ⟨s2,hs2⟩:∃ z:Int,Hid (cmpN b n = z):=⟨_,rfl⟩
 refine wlOn (e:=22) rfl rfl rfl rfl (ocall rfl rfl Tryz.call57 rfl (wncmp (hb.at hS) (hn.at hS) hs2) (args2 (ev rfl rfl) (ev rfl rfl)) ?_)
 rintro _ w2 ⟨_,_,rfl,⟨rfl,rfl⟩,hN⟩
 refine ⟨_,rfl,?_⟩
 replace hS:=hS.news hN; clear hN
 refine wlOn (e:=22) rfl rfl rfl rfl (obin (u:=.int .i64 s2) (v:=.int .i64 0) (z:=.bool false) rfl rfl (ev rfl rfl) evc (bin_geq (decide_eq_false (by rw [← hs2.out]; have:=cmpN_below hlb; omega))) ?_)
 refine wl rfl (opick (b:=false) (v:=.bool false) rfl rfl (ev rfl rfl) (ev rfl rfl) ?_)
 refine wnil (thenN ?_)
 refine wF (ev rfl rfl) ?_
 refine wskip (thenN (wseq (wreg (wl rfl (omove (v:=.slice pm nm cm) rfl rfl (ev rfl rfl) ?_)))))
 refine wl rfl (obuild (ps:=#[(1,.slice pm nm cm)]) (v:=.agg #[.bool false,.slice pm nm cm]) rfl rfl (parts1 (ev (v:=.slice pm nm cm) rfl rfl)) (fun w => by simp [go_sem,Instr.build,Instr.fill]) ?_)
 refine wl rfl (omove (v:=.slice pn nn cn) rfl rfl (ev rfl rfl) ?_)
 refine wl rfl (obuild (ps:=#[(1,.slice pn nn cn)]) (v:=.agg #[.bool false,.slice pn nn cn]) rfl rfl (parts1 (ev (v:=.slice pn nn cn) rfl rfl)) (fun w => by simp [go_sem,Instr.build,Instr.fill]) ?_)
 refine wl rfl (ocall rfl rfl Tryz.call100 rfl (wzbez ((hzm.at hS).mono (by omega)) ((hzn.at hS).mono (by omega)) (by omega)) (args2 (ev rfl rfl) (ev rfl rfl)) ?_)
 rintro _ w3 ⟨_,_,rfl,⟨u1,v1,hb1,p3,n3,c3,p4,n4,c4,p5,n5,c5,rfl,rfl⟩,hN⟩
 refine ⟨_,rfl,?_⟩
 replace hS:=hS.news hN; clear hN
 have hk3:Wd ((Int.gcd ((m:Nat):Int) ((n:Nat):Int):Nat):Int) 4194306:=Wd.gcd hzm.wd hzn.wd rfl (by omega)
 have hk4:Wd u1 4194306:=(hzn.wd.abs (hb1.bd (by omega))).mono (by omega)
 have hgi:Nat.gcd m n = 1 → ((Int.gcd ((m:Nat):Int) ((n:Nat):Int):Nat):Int) = 1:=fun h => by rw [show Int.gcd ((m:Nat):Int) ((n:Nat):Int) = Nat.gcd m n from rfl,h]; rfl
 refine wl rfl (omove (v:=.tuple #[.agg #[.bool (ng (Int.gcd (m:Int) (n:Int):Int)),.slice p3 n3 c3],.agg #[.bool (ng u1),.slice p4 n4 c4],.agg #[.bool (ng v1),.slice p5 n5 c5]]) rfl rfl (ev rfl rfl) ?_)
 refine wl rfl (oextract (vs:=[.agg #[.bool (ng (Int.gcd (m:Int) (n:Int):Int)),.slice p3 n3 c3],.agg #[.bool (ng u1),.slice p4 n4 c4],.agg #[.bool (ng v1),.slice p5 n5 c5]]) (v:=.agg #[.bool (ng (Int.gcd (m:Int) (n:Int):Int)),.slice p3 n3 c3]) rfl rfl (ev rfl rfl) rfl ?_)
 refine wl rfl (oextract (vs:=[.agg #[.bool (ng (Int.gcd (m:Int) (n:Int):Int)),.slice p3 n3 c3],.agg #[.bool (ng u1),.slice p4 n4 c4],.agg #[.bool (ng v1),.slice p5 n5 c5]]) (v:=.agg #[.bool (ng u1),.slice p4 n4 c4]) rfl rfl (ev rfl rfl) rfl ?_)
 refine wl rfl (oextract (vs:=[.agg #[.bool (ng (Int.gcd (m:Int) (n:Int):Int)),.slice p3 n3 c3],.agg #[.bool (ng u1),.slice p4 n4 c4],.agg #[.bool (ng v1),.slice p5 n5 c5]]) (v:=.agg #[.bool (ng v1),.slice p5 n5 c5]) rfl rfl (ev rfl rfl) rfl ?_)
 refine wl rfl (oalloc [.bool false,.slice none 0 0] hS rfl rfl Tryz.zeroValue28 rfl ?_)
 clear hS; intro g4 w5 hS
 refine wl rfl (oalloc [.bool false,.slice none 0 0] hS rfl rfl Tryz.zeroValue28 rfl ?_)
 clear hS; intro g6 w7 hS
 refine wl rfl (oalloc [.bool false,.slice none 0 0] hS rfl rfl Tryz.zeroValue28 rfl ?_)
 clear hS; intro g8 w9 hS
 refine wl rfl (ostore [.bool (ng (Int.gcd (m:Int) (n:Int):Int)),.slice p3 n3 c3] [.bool (ng (Int.gcd (m:Int) (n:Int):Int)),.slice p3 n3 c3] Tryz.sizeOf28 hS 2 rfl rfl (ev rfl rfl) (ev (v:=.agg #[.bool (ng (Int.gcd (m:Int) (n:Int):Int)),.slice p3 n3 c3]) rfl rfl) rfl rfl rfl rfl rfl rfl ?_)
 clear hS; intro w10 hS
 refine wl rfl (ostore [.bool (ng u1),.slice p4 n4 c4] [.bool (ng u1),.slice p4 n4 c4] Tryz.sizeOf28 hS 1 rfl rfl (ev rfl rfl) (ev (v:=.agg #[.bool (ng u1),.slice p4 n4 c4]) rfl rfl) rfl rfl rfl rfl rfl rfl ?_)
 clear hS; intro w11 hS
 refine wl rfl (ostore [.bool (ng v1),.slice p5 n5 c5] [.bool (ng v1),.slice p5 n5 c5] Tryz.sizeOf28 hS 0 rfl rfl (ev rfl rfl) (ev (v:=.agg #[.bool (ng v1),.slice p5 n5 c5]) rfl rfl) rfl rfl rfl rfl rfl rfl ?_)
 clear hS; intro w12 hS
 refine wnil (thenN (wseq (wseq ?_)))
 have hk6:Wd 1 2:=Wd.i64 (by omega) (by omega)
 obtain ⟨s7,hs7⟩:∃ z:Int,Hid (cmpZ ((Int.gcd (((m:Nat):Int)) (((n:Nat):Int)):Int)) 1 = z):=⟨_,rfl⟩
 refine wstage 4 [37,38,39,40] [[],[],[0,1],[2,0,1]] [[],[],[],[]] [] [] (fun i9 => ([fun _ => Is (.agg #[.bool (ng (Int.gcd (m:Int) (n:Int):Int)),.slice p3 n3 c3]),fun _ => Zt 1,fun _ => Is (.int .i64 s7),fun _ => Is (.bool false)]:List (List Value → Tell)).getD i9 (fun _ _ _ => False)) (heldNil) (fun d _ _ _ _ h => (by cases d <;> exact h)) (by kernel_rfl) (by kernel_rfl) (by kernel_rfl) hS ?_ ?_
 ·
  refine stepsCons rfl (fun Q f' w' ρ S ho hT hS hB => ?_) ?_
  ·exact .inl ⟨want_none rfl,oload (vs:=[.bool (ng (Int.gcd (m:Int) (n:Int):Int)),.slice p3 n3 c3]) aggZ hS 2 rfl rfl (ev rfl (ho 11 rfl)) rfl rfl rfl ⟨_,_,rfl,isI,New.same _⟩⟩
  refine stepsCons rfl (fun Q f' w' ρ S ho hT hS hB => ?_) ?_
  ·exact .inl ⟨want_none rfl,ocall rfl rfl Tryz.call59 rfl (wzof (z:=1) (by omega) (by omega)) (args1 evc) callN⟩
  refine stepsCons rfl (fun Q f' w' ρ S ho hT hS hB => ?_) ?_
  ·obtain ⟨hv0,hr0⟩:=(hT 0 37 rfl rfl:(Is (.agg #[.bool (ng (Int.gcd (((m:Nat):Int)) (((n:Nat):Int)):Int)),.slice p3 n3 c3])) _ _)
   obtain ⟨p6,n6,c6,hv1,hr1⟩:=(hT 1 38 rfl rfl:(Zt 1) _ _)
   obtain hS:=hS.flat2 hr0 hr1
   exact .inl ⟨want_none rfl,ocall rfl rfl Tryz.call60 rfl (wzcmp (((hS.sl 3 rfl).zr hk3).mono (by omega)) (((hS.sl 6 rfl).zr hk6).mono (by omega)) hs7) (args2 (ev rfl hv0) (ev rfl hv1)) callN⟩
  refine stepsCons rfl (fun Q f' w' ρ S ho hT hS hB => ?_) ?_
  ·obtain ⟨hv2,hr2⟩:=(hT 2 39 rfl rfl:(Is (.int .i64 s7)) _ _)
   obtain hS:=hS.flat1 hr2
   exact .inl ⟨want_none rfl,obin (u:=.int .i64 s7) (v:=.int .i64 0) (z:=.bool false) rfl rfl (ev rfl hv2) evc (bin_neq (cmpZ_neF hs7 (hgi hg))) ⟨_,_,rfl,isI,New.same _⟩⟩
  exact stepsNil
 ·
  intro vs ρ w13 f' hf hT hS
  obtain ⟨hv0,hr0⟩:=(hT 0 (by decide):(Is (.agg #[.bool (ng (Int.gcd (((m:Nat):Int)) (((n:Nat):Int)):Int)),.slice p3 n3 c3])) _ _)
  obtain ⟨p6,n6,c6,hv1,hr1⟩:=(hT 1 (by decide):(Zt 1) _ _)
  obtain ⟨hv2,hr2⟩:=(hT 2 (by decide):(Is (.int .i64 s7)) _ _)
  obtain ⟨hv3,hr3⟩:=(hT 3 (by decide):(Is (.bool false)) _ _)
  simp only [pool,if_true,hr0,hr1,hr2,hr3,List.nil_append,List.cons_append,List.append_nil] at hS
  simp only [layf,hv0,hv1,hv2,hv3] at hf
  subst hf; clear hT hv0 hv1 hv2 hv3 hr0 hr1 hr2 hr3
  refine wdone rfl ?_
  refine thenN ?_
  refine wF (ev rfl rfl) ?_
  refine wskip (thenN (wseq (wreg (wl rfl (omove (v:=.slice pb nb cb) rfl rfl (ev rfl rfl) ?_)))))
  refine wl rfl (obuild (ps:=#[(1,.slice pb nb cb)]) (v:=.agg #[.bool false,.slice pb nb cb]) rfl rfl (parts1 (ev (v:=.slice pb nb cb) rfl rfl)) (fun w => by simp [go_sem,Instr.build,Instr.fill]) ?_)
  refine wl rfl (omove (v:=.slice pa na ca) rfl rfl (ev rfl rfl) ?_)
  refine wl rfl (obuild (ps:=#[(1,.slice pa na ca)]) (v:=.agg #[.bool false,.slice pa na ca]) rfl rfl (parts1 (ev (v:=.slice pa na ca) rfl rfl)) (fun w => by simp [go_sem,Instr.build,Instr.fill]) ?_)
  obtain ⟨z8,hz8⟩:∃ z:Int,Hid ((((b:Nat):Int)) - (((a:Nat):Int)) = z):=⟨_,rfl⟩
  have hk8:Wd z8 2097153:=Wd.sub hzb.wd hza.wd hz8 (by omega)
  refine wl rfl (ocall rfl rfl Tryz.call62 rfl (wzsub ((hzb.at hS).mono (by omega)) ((hza.at hS).mono (by omega)) hz8) (args2 (ev rfl rfl) (ev rfl rfl)) ?_)
  rintro _ w14 ⟨_,_,rfl,⟨p8,n8,c8,rfl,rfl⟩,hN⟩
  refine ⟨_,rfl,?_⟩
  replace hS:=hS.news hN; clear hN
  refine wl rfl (oalloc [.bool false,.slice none 0 0] hS rfl rfl Tryz.zeroValue28 rfl ?_)
  clear hS; intro g15 w16 hS
  refine wl rfl (ostore [.bool (ng z8),.slice p8 n8 c8] [.bool (ng z8),.slice p8 n8 c8] Tryz.sizeOf28 hS 0 rfl rfl (ev rfl rfl) (ev (v:=.agg #[.bool (ng z8),.slice p8 n8 c8]) rfl rfl) rfl rfl rfl rfl rfl rfl ?_)
  clear hS; intro w17 hS
  refine wnil (thenN (wseq (wreg (wl rfl (oload (vs:=[.bool (ng z8),.slice p8 n8 c8]) aggZ hS 0 rfl rfl (ev rfl rfl) rfl rfl rfl ?_)))))
  refine wl rfl (oload (vs:=[.bool (ng u1),.slice p4 n4 c4]) aggZ hS 4 rfl rfl (ev rfl rfl) rfl rfl rfl ?_)
  obtain ⟨z9,hz9⟩:∃ z:Int,Hid (z8 * u1 = z):=⟨_,rfl⟩
  have hk9:Wd z9 6291459:=Wd.mul hk8 hk4 hz9 (by omega)
  refine wl rfl (ocall rfl rfl Tryz.call63 rfl (wzmul (((hS.sl 1 rfl).zr hk8).mono (by omega)) (((hS.sl 7 rfl).zr hk4).mono (by omega)) hz9) (args2 (ev rfl rfl) (ev rfl rfl)) ?_)
  rintro _ w18 ⟨_,_,rfl,⟨p9,n9,c9,rfl,rfl⟩,hN⟩
  refine ⟨_,rfl,?_⟩
  replace hS:=hS.news hN; clear hN
  refine wl rfl (omove (v:=.slice pn nn cn) rfl rfl (ev rfl rfl) ?_)
  refine wl rfl (obuild (ps:=#[(1,.slice pn nn cn)]) (v:=.agg #[.bool false,.slice pn nn cn]) rfl rfl (parts1 (ev (v:=.slice pn nn cn) rfl rfl)) (fun w => by simp [go_sem,Instr.build,Instr.fill]) ?_)
  obtain ⟨z10,hz10⟩:∃ z:Int,Hid (z9 / (((n:Nat):Int)) = z):=⟨_,rfl⟩
  have hk10:Wd z10 6291459:=Wd.ediv hk9 hz10
  obtain ⟨z11,hz11⟩:∃ z:Int,Hid (z9 % (((n:Nat):Int)) = z):=⟨_,rfl⟩
  have hk11:Wd z11 2097152:=Wd.emod hzn.wd (by omega) hz11
  refine wl rfl (ocall rfl rfl Tryz.call61 rfl (wzeuclid (((hS.sl 0 rfl).zr hk9).mono (by omega)) ((hzn.at hS).mono (by omega)) (by omega) hz10 hz11) (args2 (ev rfl rfl) (ev rfl rfl)) ?_)
  rintro _ w19 ⟨_,_,rfl,⟨p10,n10,c10,p11,n11,c11,rfl,rfl⟩,hN⟩
  refine ⟨_,rfl,?_⟩
  replace hS:=hS.news hN; clear hN
  refine wl rfl (omove (v:=.tuple #[.agg #[.bool (ng z10),.slice p10 n10 c10],.agg #[.bool (ng z11),.slice p11 n11 c11],.int .i64 0]) rfl rfl (ev rfl rfl) ?_)
  refine wl rfl (oextract (vs:=[.agg #[.bool (ng z10),.slice p10 n10 c10],.agg #[.bool (ng z11),.slice p11 n11 c11],.int .i64 0]) (v:=.agg #[.bool (ng z10),.slice p10 n10 c10]) rfl rfl (ev rfl rfl) rfl ?_)
  refine wl rfl (oextract (vs:=[.agg #[.bool (ng z10),.slice p10 n10 c10],.agg #[.bool (ng z11),.slice p11 n11 c11],.int .i64 0]) (v:=.agg #[.bool (ng z11),.slice p11 n11 c11]) rfl rfl (ev rfl rfl) rfl ?_)
  refine wl rfl (oextract (vs:=[.agg #[.bool (ng z10),.slice p10 n10 c10],.agg #[.bool (ng z11),.slice p11 n11 c11],.int .i64 0]) (v:=.int .i64 0) rfl rfl (ev rfl rfl) rfl ?_)
  refine wl rfl (oalloc [.bool false,.slice none 0 0] hS rfl rfl Tryz.zeroValue28 rfl ?_)
  clear hS; intro g20 w21 hS
  refine wl rfl (oalloc [.bool false,.slice none 0 0] hS rfl rfl Tryz.zeroValue28 rfl ?_)
  clear hS; intro g22 w23 hS
  refine wl rfl (ostore [.bool (ng z10),.slice p10 n10 c10] [.bool (ng z10),.slice p10 n10 c10] Tryz.sizeOf28 hS 1 rfl rfl (ev rfl rfl) (ev (v:=.agg #[.bool (ng z10),.slice p10 n10 c10]) rfl rfl) rfl rfl rfl rfl rfl rfl ?_)
  clear hS; intro w24 hS
  refine wl rfl (ostore [.bool (ng z11),.slice p11 n11 c11] [.bool (ng z11),.slice p11 n11 c11] Tryz.sizeOf28 hS 0 rfl rfl (ev rfl rfl) (ev (v:=.agg #[.bool (ng z11),.slice p11 n11 c11]) rfl rfl) rfl rfl rfl rfl rfl rfl ?_)
  clear hS; intro w25 hS
  refine wl rfl (oassign (v:=.int .i64 0) rfl rfl (ev rfl rfl) ?_)
  refine wnil (thenN (wseq (wreg (wl rfl (omove (v:=.slice pa na ca) rfl rfl (ev rfl rfl) ?_)))))
  refine wl rfl (omove (v:=.slice pm nm cm) rfl rfl (ev rfl rfl) ?_)
  refine wl rfl (ofieldAddr (g:=g22) (off:=0) 1 rfl rfl (ev rfl rfl) Tryz.runUnderlying28 rfl Tryz.sizeOf26 rfl ?_)
  refine wl rfl (oload1 (v:=.slice p11 n11 c11) oneN hS 0 rfl rfl (ev rfl rfl) rfl rfl ?_)
  obtain ⟨x12,hx12⟩:∃ x:Nat,Hid (m * z11.natAbs = x):=⟨_,rfl⟩
  have hkx12:ll x12 ≤ 4194304:=Nd.mul hm.ll hk11 hx12 (by omega)
  refine wl rfl (ocall rfl rfl Tryz.call56 rfl (wnmul ((hm.at hS).mono (by omega)) (((hS.sl 3 rfl).nr hk11).mono (by omega)) hx12) (args2 (ev rfl rfl) (ev rfl rfl)) ?_)
  rintro _ w26 ⟨_,_,rfl,⟨p12,n12,c12,rfl,rfl⟩,hN⟩
  refine ⟨_,rfl,?_⟩
  replace hS:=hS.news hN; clear hN
  obtain ⟨x13,hx13⟩:∃ x:Nat,Hid (a + x12 = x):=⟨_,rfl⟩
  have hkx13:ll x13 ≤ 4194305:=Nd.add ha.ll hkx12 hx13 (by omega)
  refine wl rfl (ocall rfl rfl Tryz.call58 rfl ((wnadd ((ha.at hS).mono (by omega)) (((hS.sl 0 rfl).nr hkx12).mono (by omega)) hx13).mono Nt.m) (args2 (ev rfl rfl) (ev rfl rfl)) ?_)
  rintro _ w27 ⟨_,_,rfl,⟨p13,n13,c13,rfl,rfl⟩,hN⟩
  refine ⟨_,rfl,?_⟩
  replace hS:=hS.news hN; clear hN
  refine wl rfl (omove (v:=.slice pm nm cm) rfl rfl (ev rfl rfl) ?_)
  refine wl rfl (omove (v:=.slice pn nn cn) rfl rfl (ev rfl rfl) ?_)
  obtain ⟨x14,hx14⟩:∃ x:Nat,Hid (m * n = x):=⟨_,rfl⟩
  have hkx14:ll x14 ≤ 4194304:=Nd.mul hm.ll hn.ll hx14 (by omega)
  refine wl rfl (ocall rfl rfl Tryz.call56 rfl ((wnmul ((hm.at hS).mono (by omega)) ((hn.at hS).mono (by omega)) hx14).mono Nt.m) (args2 (ev rfl rfl) (ev rfl rfl)) ?_)
  rintro _ w28 ⟨_,_,rfl,⟨p14,n14,c14,rfl,rfl⟩,hN⟩
  refine ⟨_,rfl,?_⟩
  replace hS:=hS.news hN; clear hN
  refine wl rfl (oassign (v:=.slice p13 n13 c13) rfl rfl (ev rfl rfl) ?_)
  refine wl rfl (oassign (v:=.slice p14 n14 c14) rfl rfl (ev rfl rfl) ?_)
  refine wl rfl (oassign (v:=.int .i64 0) rfl rfl evc ?_)
  refine wnil (thenN ?_)
  refine wleave ?_
  refine wret3 Tryz.results48 (tellT (v:=.slice p13 n13 c13) rfl rfl) (tellT (v:=.slice p14 n14 c14) rfl rfl) (tellT (v:=.int .i64 0) rfl rfl) ?_
  have hKK:=jk_uniq hg (jk_of hb1 hg (by omega) hz8 hz9 hz11) hK
  have e:x13 = a + m * K:=by rw [← hx13.out, ← hx12.out,hKK]
  rw [← e,hx14.out]
  exact ⟨_,_,rfl,⟨_,_,_,_,_,_,rfl,rfl⟩,(show Sep w [.rowm p13 n13 c13 (lim x13),.rowm p14 n14 c14 (lim x14)] w28 from hS.pick [1,0] (by decide) rfl).new rfl⟩
theorem wcjoinE {pa pm pb pn:Option Addr} {na ca nm cm nb cb nn cn a m b n:Nat} {w:World} (ha:Nr w pa na ca a 2097152) (hm:Nr w pm nm cm m 2097152) (hb:Nr w pb nb cb b 2097152) (hn:Nr w pn nn cn n 2097152) (hne:¬ (a < m ∧ b < n ∧ Nat.gcd m n = 1)) :
  Calls Tryz.prog 48 #[.slice pa na ca,.slice pm nm cm,.slice pb nb cb,.slice pn nn cn] w (Ret (Is (.tuple #[.slice none 0 0,.slice none 0 0,.int .i64 (((jne a m b n:Nat):Int))])) w):=by
 have hza:=ha.zr
 have hzm:=hm.zr
 have hzb:=hb.zr
 have hzn:=hn.zr
 have hS:=Sep.init w
 refine went Tryz.func48 rfl (n:=65) rfl rfl ?_
 refine wseq (wreg (wl rfl (oassign (v:=.slice none 0 0) rfl rfl evc ?_)))
 refine wl rfl (oassign (v:=.slice none 0 0) rfl rfl evc ?_)
 refine wl rfl (oassign (v:=.int .i64 0) rfl rfl evc ?_)
 refine wnil (thenN (wseq (wseq (wreg (wl rfl (omove (v:=.slice pa na ca) rfl rfl (ev rfl rfl) ?_))))))
 refine wl rfl (omove (v:=.slice pm nm cm) rfl rfl (ev rfl rfl) ?_)
 obtain ⟨s1,hs1⟩:∃ z:Int,Hid (cmpN a m = z):=⟨_,rfl⟩
 refine wl rfl (ocall rfl rfl Tryz.call57 rfl (wncmp (ha.at hS) (hm.at hS) hs1) (args2 (ev rfl rfl) (ev rfl rfl)) ?_)
 rintro _ w1 ⟨_,_,rfl,⟨rfl,rfl⟩,hN⟩
 refine ⟨_,rfl,?_⟩
 replace hS:=hS.news hN; clear hN
 by_cases hla:a < m
 ·
  refine wl rfl (obin (u:=.int .i64 s1) (v:=.int .i64 0) (z:=.bool false) rfl rfl (ev rfl rfl) evc (bin_geq (decide_eq_false (by rw [← hs1.out]; have:=cmpN_below hla; omega))) ?_)
  refine wl rfl (omove (v:=.bool false) rfl rfl (ev rfl rfl) ?_)
  refine wlOn (e:=22) rfl rfl rfl rfl (omove (v:=.slice pb nb cb) rfl rfl (ev rfl rfl) ?_)
  refine wlOn (e:=22) rfl rfl rfl rfl (omove (v:=.slice pn nn cn) rfl rfl (ev rfl rfl) ?_)
  obtain ⟨s2,hs2⟩:∃ z:Int,Hid (cmpN b n = z):=⟨_,rfl⟩
  refine wlOn (e:=22) rfl rfl rfl rfl (ocall rfl rfl Tryz.call57 rfl (wncmp (hb.at hS) (hn.at hS) hs2) (args2 (ev rfl rfl) (ev rfl rfl)) ?_)
  rintro _ w2 ⟨_,_,rfl,⟨rfl,rfl⟩,hN⟩
  refine ⟨_,rfl,?_⟩
  replace hS:=hS.news hN; clear hN
  by_cases hlb:b < n
  ·
   refine wlOn (e:=22) rfl rfl rfl rfl (obin (u:=.int .i64 s2) (v:=.int .i64 0) (z:=.bool false) rfl rfl (ev rfl rfl) evc (bin_geq (decide_eq_false (by rw [← hs2.out]; have:=cmpN_below hlb; omega))) ?_)
   refine wl rfl (opick (b:=false) (v:=.bool false) rfl rfl (ev rfl rfl) (ev rfl rfl) ?_)
   refine wnil (thenN ?_)
   refine wF (ev rfl rfl) ?_
   refine wskip (thenN (wseq (wreg (wl rfl (omove (v:=.slice pm nm cm) rfl rfl (ev rfl rfl) ?_)))))
   refine wl rfl (obuild (ps:=#[(1,.slice pm nm cm)]) (v:=.agg #[.bool false,.slice pm nm cm]) rfl rfl (parts1 (ev (v:=.slice pm nm cm) rfl rfl)) (fun w => by simp [go_sem,Instr.build,Instr.fill]) ?_)
   refine wl rfl (omove (v:=.slice pn nn cn) rfl rfl (ev rfl rfl) ?_)
   refine wl rfl (obuild (ps:=#[(1,.slice pn nn cn)]) (v:=.agg #[.bool false,.slice pn nn cn]) rfl rfl (parts1 (ev (v:=.slice pn nn cn) rfl rfl)) (fun w => by simp [go_sem,Instr.build,Instr.fill]) ?_)
   have hng:Nat.gcd m n ≠ 1:=fun h => hne ⟨hla,hlb,h⟩
   have hcode:=jne_60 hla hlb hng
   refine wl rfl (ocall rfl rfl Tryz.call100 rfl (wzbez ((hzm.at hS).mono (by omega)) ((hzn.at hS).mono (by omega)) (by omega)) (args2 (ev rfl rfl) (ev rfl rfl)) ?_)
   rintro _ w3 ⟨_,_,rfl,⟨u1,v1,hb1,p3,n3,c3,p4,n4,c4,p5,n5,c5,rfl,rfl⟩,hN⟩
   refine ⟨_,rfl,?_⟩
   replace hS:=hS.news hN; clear hN
   have hk3:Wd ((Int.gcd ((m:Nat):Int) ((n:Nat):Int):Nat):Int) 4194306:=Wd.gcd hzm.wd hzn.wd rfl (by omega)
   have hk4:Wd u1 4194306:=(hzn.wd.abs (hb1.bd (by omega))).mono (by omega)
   have hgi:Nat.gcd m n = 1 → ((Int.gcd ((m:Nat):Int) ((n:Nat):Int):Nat):Int) = 1:=fun h => by rw [show Int.gcd ((m:Nat):Int) ((n:Nat):Int) = Nat.gcd m n from rfl,h]; rfl
   refine wl rfl (omove (v:=.tuple #[.agg #[.bool (ng (Int.gcd (m:Int) (n:Int):Int)),.slice p3 n3 c3],.agg #[.bool (ng u1),.slice p4 n4 c4],.agg #[.bool (ng v1),.slice p5 n5 c5]]) rfl rfl (ev rfl rfl) ?_)
   refine wl rfl (oextract (vs:=[.agg #[.bool (ng (Int.gcd (m:Int) (n:Int):Int)),.slice p3 n3 c3],.agg #[.bool (ng u1),.slice p4 n4 c4],.agg #[.bool (ng v1),.slice p5 n5 c5]]) (v:=.agg #[.bool (ng (Int.gcd (m:Int) (n:Int):Int)),.slice p3 n3 c3]) rfl rfl (ev rfl rfl) rfl ?_)
   refine wl rfl (oextract (vs:=[.agg #[.bool (ng (Int.gcd (m:Int) (n:Int):Int)),.slice p3 n3 c3],.agg #[.bool (ng u1),.slice p4 n4 c4],.agg #[.bool (ng v1),.slice p5 n5 c5]]) (v:=.agg #[.bool (ng u1),.slice p4 n4 c4]) rfl rfl (ev rfl rfl) rfl ?_)
   refine wl rfl (oextract (vs:=[.agg #[.bool (ng (Int.gcd (m:Int) (n:Int):Int)),.slice p3 n3 c3],.agg #[.bool (ng u1),.slice p4 n4 c4],.agg #[.bool (ng v1),.slice p5 n5 c5]]) (v:=.agg #[.bool (ng v1),.slice p5 n5 c5]) rfl rfl (ev rfl rfl) rfl ?_)
   refine wl rfl (oalloc [.bool false,.slice none 0 0] hS rfl rfl Tryz.zeroValue28 rfl ?_)
   clear hS; intro g4 w5 hS
   refine wl rfl (oalloc [.bool false,.slice none 0 0] hS rfl rfl Tryz.zeroValue28 rfl ?_)
   clear hS; intro g6 w7 hS
   refine wl rfl (oalloc [.bool false,.slice none 0 0] hS rfl rfl Tryz.zeroValue28 rfl ?_)
   clear hS; intro g8 w9 hS
   refine wl rfl (ostore [.bool (ng (Int.gcd (m:Int) (n:Int):Int)),.slice p3 n3 c3] [.bool (ng (Int.gcd (m:Int) (n:Int):Int)),.slice p3 n3 c3] Tryz.sizeOf28 hS 2 rfl rfl (ev rfl rfl) (ev (v:=.agg #[.bool (ng (Int.gcd (m:Int) (n:Int):Int)),.slice p3 n3 c3]) rfl rfl) rfl rfl rfl rfl rfl rfl ?_)
   clear hS; intro w10 hS
   refine wl rfl (ostore [.bool (ng u1),.slice p4 n4 c4] [.bool (ng u1),.slice p4 n4 c4] Tryz.sizeOf28 hS 1 rfl rfl (ev rfl rfl) (ev (v:=.agg #[.bool (ng u1),.slice p4 n4 c4]) rfl rfl) rfl rfl rfl rfl rfl rfl ?_)
   clear hS; intro w11 hS
   refine wl rfl (ostore [.bool (ng v1),.slice p5 n5 c5] [.bool (ng v1),.slice p5 n5 c5] Tryz.sizeOf28 hS 0 rfl rfl (ev rfl rfl) (ev (v:=.agg #[.bool (ng v1),.slice p5 n5 c5]) rfl rfl) rfl rfl rfl rfl rfl rfl ?_)
   clear hS; intro w12 hS
   refine wnil (thenN (wseq (wseq ?_)))
   have hk6:Wd 1 2:=Wd.i64 (by omega) (by omega)
   obtain ⟨s7,hs7⟩:∃ z:Int,Hid (cmpZ ((Int.gcd (((m:Nat):Int)) (((n:Nat):Int)):Int)) 1 = z):=⟨_,rfl⟩
   refine wstage 4 [37,38,39,40] [[],[],[0,1],[2,0,1]] [[],[],[],[]] [] [] (fun i9 => ([fun _ => Is (.agg #[.bool (ng (Int.gcd (m:Int) (n:Int):Int)),.slice p3 n3 c3]),fun _ => Zt 1,fun _ => Is (.int .i64 s7),fun _ => Is (.bool true)]:List (List Value → Tell)).getD i9 (fun _ _ _ => False)) (heldNil) (fun d _ _ _ _ h => (by cases d <;> exact h)) (by kernel_rfl) (by kernel_rfl) (by kernel_rfl) hS ?_ ?_
   ·
    refine stepsCons rfl (fun Q f' w' ρ S ho hT hS hB => ?_) ?_
    ·exact .inl ⟨want_none rfl,oload (vs:=[.bool (ng (Int.gcd (m:Int) (n:Int):Int)),.slice p3 n3 c3]) aggZ hS 2 rfl rfl (ev rfl (ho 11 rfl)) rfl rfl rfl ⟨_,_,rfl,isI,New.same _⟩⟩
    refine stepsCons rfl (fun Q f' w' ρ S ho hT hS hB => ?_) ?_
    ·exact .inl ⟨want_none rfl,ocall rfl rfl Tryz.call59 rfl (wzof (z:=1) (by omega) (by omega)) (args1 evc) callN⟩
    refine stepsCons rfl (fun Q f' w' ρ S ho hT hS hB => ?_) ?_
    ·obtain ⟨hv0,hr0⟩:=(hT 0 37 rfl rfl:(Is (.agg #[.bool (ng (Int.gcd (((m:Nat):Int)) (((n:Nat):Int)):Int)),.slice p3 n3 c3])) _ _)
     obtain ⟨p6,n6,c6,hv1,hr1⟩:=(hT 1 38 rfl rfl:(Zt 1) _ _)
     obtain hS:=hS.flat2 hr0 hr1
     exact .inl ⟨want_none rfl,ocall rfl rfl Tryz.call60 rfl (wzcmp (((hS.sl 3 rfl).zr hk3).mono (by omega)) (((hS.sl 6 rfl).zr hk6).mono (by omega)) hs7) (args2 (ev rfl hv0) (ev rfl hv1)) callN⟩
    refine stepsCons rfl (fun Q f' w' ρ S ho hT hS hB => ?_) ?_
    ·obtain ⟨hv2,hr2⟩:=(hT 2 39 rfl rfl:(Is (.int .i64 s7)) _ _)
     obtain hS:=hS.flat1 hr2
     exact .inl ⟨want_none rfl,obin (u:=.int .i64 s7) (v:=.int .i64 0) (z:=.bool true) rfl rfl (ev rfl hv2) evc (bin_neq (cmpZ_neT hs7 (fun h => hng (by have h9:=(show ((Nat.gcd m n:Nat):Int) = 1 from h); omega)))) ⟨_,_,rfl,isI,New.same _⟩⟩
    exact stepsNil
   ·
    intro vs ρ w13 f' hf hT hS
    obtain ⟨hv0,hr0⟩:=(hT 0 (by decide):(Is (.agg #[.bool (ng (Int.gcd (((m:Nat):Int)) (((n:Nat):Int)):Int)),.slice p3 n3 c3])) _ _)
    obtain ⟨p6,n6,c6,hv1,hr1⟩:=(hT 1 (by decide):(Zt 1) _ _)
    obtain ⟨hv2,hr2⟩:=(hT 2 (by decide):(Is (.int .i64 s7)) _ _)
    obtain ⟨hv3,hr3⟩:=(hT 3 (by decide):(Is (.bool true)) _ _)
    simp only [pool,if_true,hr0,hr1,hr2,hr3,List.nil_append,List.cons_append,List.append_nil] at hS
    simp only [layf,hv0,hv1,hv2,hv3] at hf
    subst hf; clear hT hv0 hv1 hv2 hv3 hr0 hr1 hr2 hr3
    refine wdone rfl ?_
    refine thenN ?_
    refine wT (ev rfl rfl) ?_
    refine wseq (wreg (wl rfl (oassign (v:=.slice none 0 0) rfl rfl evc ?_)))
    refine wl rfl (oassign (v:=.slice none 0 0) rfl rfl evc ?_)
    refine wl rfl (oassign (v:=.int .i64 60) rfl rfl evc ?_)
    refine wnil (thenN ?_)
    refine wleave ?_
    refine thenR ?_
    refine wret3 Tryz.results48 (tellT (v:=.slice none 0 0) rfl rfl) (tellT (v:=.slice none 0 0) rfl rfl) (tellT (v:=.int .i64 60) rfl rfl) ?_
    exact ⟨_,_,rfl,⟨by rw [hcode]; rfl,rfl⟩,hS.new0⟩
  ·
   refine wlOn (e:=22) rfl rfl rfl rfl (obin (u:=.int .i64 s2) (v:=.int .i64 0) (z:=.bool true) rfl rfl (ev rfl rfl) evc (bin_geq (decide_eq_true (by rw [← hs2.out]; exact cmpN_not_below (by omega)))) ?_)
   refine wl rfl (opick (b:=false) (v:=.bool true) rfl rfl (ev rfl rfl) (ev rfl rfl) ?_)
   refine wnil (thenN ?_)
   refine wT (ev rfl rfl) ?_
   refine wseq (wreg (wl rfl (oassign (v:=.slice none 0 0) rfl rfl evc ?_)))
   refine wl rfl (oassign (v:=.slice none 0 0) rfl rfl evc ?_)
   refine wl rfl (oassign (v:=.int .i64 1) rfl rfl evc ?_)
   refine wnil (thenN ?_)
   refine wleave ?_
   refine thenR ?_
   have hcode:jne a m b n = 1:=jne_1 (by omega)
   refine wret3 Tryz.results48 (tellT (v:=.slice none 0 0) rfl rfl) (tellT (v:=.slice none 0 0) rfl rfl) (tellT (v:=.int .i64 1) rfl rfl) ?_
   exact ⟨_,_,rfl,⟨by rw [hcode]; rfl,rfl⟩,hS.new0⟩
 ·
  refine wl rfl (obin (u:=.int .i64 s1) (v:=.int .i64 0) (z:=.bool true) rfl rfl (ev rfl rfl) evc (bin_geq (decide_eq_true (by rw [← hs1.out]; exact cmpN_not_below (by omega)))) ?_)
  refine wl rfl (omove (v:=.bool true) rfl rfl (ev rfl rfl) ?_)
  refine wlOff (e:=22) (d:=23) (b':=true) rfl rfl rfl rfl rfl rfl ?_
  refine wlOff (e:=22) (d:=24) (b':=true) rfl rfl rfl rfl rfl rfl ?_
  refine wlOff (e:=22) (d:=25) (b':=true) rfl rfl rfl rfl rfl rfl ?_
  refine wlOff (e:=22) (d:=26) (b':=true) rfl rfl rfl rfl rfl rfl ?_
  refine wl rfl (opick (b:=true) (v:=.bool true) rfl rfl (ev rfl rfl) evc ?_)
  refine wnil (thenN ?_)
  refine wT (ev rfl rfl) ?_
  refine wseq (wreg (wl rfl (oassign (v:=.slice none 0 0) rfl rfl evc ?_)))
  refine wl rfl (oassign (v:=.slice none 0 0) rfl rfl evc ?_)
  refine wl rfl (oassign (v:=.int .i64 1) rfl rfl evc ?_)
  refine wnil (thenN ?_)
  refine wleave ?_
  refine thenR ?_
  have hcode:jne a m b n = 1:=jne_1 (by omega)
  refine wret3 Tryz.results48 (tellT (v:=.slice none 0 0) rfl rfl) (tellT (v:=.slice none 0 0) rfl rfl) (tellT (v:=.int .i64 1) rfl rfl) ?_
  exact ⟨_,_,rfl,⟨by rw [hcode]; rfl,rfl⟩,hS.new0⟩
theorem wfjoin {pa pm pb pn:Option Addr} {na ca nm cm nb cb nn cn a m b n:Nat} {w:World} (ha:Nr w pa na ca a 2097152) (hm:Nr w pm nm cm m 2097152) (hb:Nr w pb nb cb b 2097152) (hn:Nr w pn nn cn n 2097152) (hla:a < m) (hlb:b < n) (hg:Nat.gcd m n = 1) {K:Nat} (hK:JK a m b n K) :
  Calls Tryz.prog 49 #[.slice pa na ca,.slice pm nm cm,.slice pb nb cb,.slice pn nn cn] w (Ret (NNEt (a + m * K) (m * n) 0) w):=by
 have hza:=ha.zr
 have hzm:=hm.zr
 have hzb:=hb.zr
 have hzn:=hn.zr
 have hS:=Sep.init w
 refine went Tryz.func49 rfl (n:=65) rfl rfl ?_
 refine wseq (wreg (wl rfl (oassign (v:=.slice none 0 0) rfl rfl evc ?_)))
 refine wl rfl (oassign (v:=.slice none 0 0) rfl rfl evc ?_)
 refine wl rfl (oassign (v:=.int .i64 0) rfl rfl evc ?_)
 refine wnil (thenN (wseq (wseq (wreg (wl rfl (omove (v:=.slice pa na ca) rfl rfl (ev rfl rfl) ?_))))))
 refine wl rfl (omove (v:=.slice pm nm cm) rfl rfl (ev rfl rfl) ?_)
 refine wl rfl (ocall rfl rfl Tryz.call34 rfl (wfmay (ha.at hS) (hm.at hS) hla) (args2 (ev rfl rfl) (ev rfl rfl)) ?_)
 rintro _ w1 ⟨_,_,rfl,⟨rfl,rfl⟩,hN⟩
 refine ⟨_,rfl,?_⟩
 replace hS:=hS.news hN; clear hN
 refine wl rfl (onot (b:=true) rfl rfl (ev rfl rfl) ?_)
 refine wl rfl (omove (v:=.bool false) rfl rfl (ev rfl rfl) ?_)
 refine wlOn (e:=21) rfl rfl rfl rfl (omove (v:=.slice pb nb cb) rfl rfl (ev rfl rfl) ?_)
 refine wlOn (e:=21) rfl rfl rfl rfl (omove (v:=.slice pn nn cn) rfl rfl (ev rfl rfl) ?_)
 refine wlOn (e:=21) rfl rfl rfl rfl (ocall rfl rfl Tryz.call34 rfl (wfmay (hb.at hS) (hn.at hS) hlb) (args2 (ev rfl rfl) (ev rfl rfl)) ?_)
 rintro _ w2 ⟨_,_,rfl,⟨rfl,rfl⟩,hN⟩
 refine ⟨_,rfl,?_⟩
 replace hS:=hS.news hN; clear hN
 refine wlOn (e:=21) rfl rfl rfl rfl (onot (b:=true) rfl rfl (ev rfl rfl) ?_)
 refine wl rfl (opick (b:=false) (v:=.bool false) rfl rfl (ev rfl rfl) (ev rfl rfl) ?_)
 refine wnil (thenN ?_)
 refine wF (ev rfl rfl) ?_
 refine wskip (thenN (wseq (wseq (wreg (wl rfl (omove (v:=.slice pm nm cm) rfl rfl (ev rfl rfl) ?_))))))
 refine wl rfl (omove (v:=.slice pn nn cn) rfl rfl (ev rfl rfl) ?_)
 obtain ⟨x1,hx1⟩:∃ x:Nat,Hid (Nat.gcd m n = x):=⟨_,rfl⟩
 have hkx1:ll x1 ≤ 2097152:=(Nd.gcd hm.ll hn.ll hx1)
 refine wl rfl (ocall rfl rfl Tryz.call69 rfl (wmgcd ((hm.at hS).mono (by omega)) ((hn.at hS).mono (by omega)) hx1) (args2 (ev rfl rfl) (ev rfl rfl)) ?_)
 rintro _ w3 ⟨_,_,rfl,⟨p1,n1,c1,rfl,rfl⟩,hN⟩
 refine ⟨_,rfl,?_⟩
 replace hS:=hS.news hN; clear hN
 have hkx2:ll 1 ≤ 2:=Nd.u64 (by omega)
 refine wl rfl (ocall rfl rfl Tryz.call25 rfl (wmof (x:=1) (by omega)) (args1 evc) ?_)
 rintro _ w4 ⟨_,_,rfl,⟨p2,n2,c2,rfl,rfl⟩,hN⟩
 refine ⟨_,rfl,?_⟩
 replace hS:=hS.news hN; clear hN
 obtain ⟨s3,hs3⟩:∃ z:Int,Hid (cmpN x1 1 = z):=⟨_,rfl⟩
 refine wl rfl (ocall rfl rfl Tryz.call20 rfl (wmcmp ((hS.sl 1 rfl).nr hkx1) ((hS.sl 0 rfl).nr hkx2) hs3) (args2 (ev rfl rfl) (ev rfl rfl)) ?_)
 rintro _ w5 ⟨_,_,rfl,⟨rfl,rfl⟩,hN⟩
 refine ⟨_,rfl,?_⟩
 replace hS:=hS.news hN; clear hN
 refine wl rfl (obin (u:=.int .i64 s3) (v:=.int .i64 0) (z:=.bool false) rfl rfl (ev rfl rfl) evc (bin_neq (neF (by rw [← hs3.out]; exact cmpN_eq (by rw [← hx1.out]; exact hg)))) ?_)
 refine wnil (thenN ?_)
 refine wF (ev rfl rfl) ?_
 refine wskip (thenN (wseq (wreg (wl rfl (omove (v:=.slice pm nm cm) rfl rfl (ev rfl rfl) ?_)))))
 refine wl rfl (obuild (ps:=#[(1,.slice pm nm cm)]) (v:=.agg #[.bool false,.slice pm nm cm]) rfl rfl (parts1 (ev (v:=.slice pm nm cm) rfl rfl)) (fun w => by simp [go_sem,Instr.build,Instr.fill]) ?_)
 refine wl rfl (omove (v:=.slice pn nn cn) rfl rfl (ev rfl rfl) ?_)
 refine wl rfl (obuild (ps:=#[(1,.slice pn nn cn)]) (v:=.agg #[.bool false,.slice pn nn cn]) rfl rfl (parts1 (ev (v:=.slice pn nn cn) rfl rfl)) (fun w => by simp [go_sem,Instr.build,Instr.fill]) ?_)
 refine wl rfl (ocall rfl rfl Tryz.call101 rfl (wqbez ((hzm.at hS).mono (by omega)) ((hzn.at hS).mono (by omega)) (by omega)) (args2 (ev rfl rfl) (ev rfl rfl)) ?_)
 rintro _ w6 ⟨_,_,rfl,⟨u1,v1,hb1,p4,n4,c4,p5,n5,c5,p6,n6,c6,rfl,rfl⟩,hN⟩
 refine ⟨_,rfl,?_⟩
 replace hS:=hS.news hN; clear hN
 have hk4:Wd ((Int.gcd ((m:Nat):Int) ((n:Nat):Int):Nat):Int) 4194306:=Wd.gcd hzm.wd hzn.wd rfl (by omega)
 have hk5:Wd u1 4194306:=(hzn.wd.abs (hb1.bd (by omega))).mono (by omega)
 have hgi:Nat.gcd m n = 1 → ((Int.gcd ((m:Nat):Int) ((n:Nat):Int):Nat):Int) = 1:=fun h => by rw [show Int.gcd ((m:Nat):Int) ((n:Nat):Int) = Nat.gcd m n from rfl,h]; rfl
 refine wl rfl (omove (v:=.tuple #[.agg #[.bool (ng (Int.gcd (m:Int) (n:Int):Int)),.slice p4 n4 c4],.agg #[.bool (ng u1),.slice p5 n5 c5],.agg #[.bool (ng v1),.slice p6 n6 c6]]) rfl rfl (ev rfl rfl) ?_)
 refine wl rfl (oextract (vs:=[.agg #[.bool (ng (Int.gcd (m:Int) (n:Int):Int)),.slice p4 n4 c4],.agg #[.bool (ng u1),.slice p5 n5 c5],.agg #[.bool (ng v1),.slice p6 n6 c6]]) (v:=.agg #[.bool (ng (Int.gcd (m:Int) (n:Int):Int)),.slice p4 n4 c4]) rfl rfl (ev rfl rfl) rfl ?_)
 refine wl rfl (oextract (vs:=[.agg #[.bool (ng (Int.gcd (m:Int) (n:Int):Int)),.slice p4 n4 c4],.agg #[.bool (ng u1),.slice p5 n5 c5],.agg #[.bool (ng v1),.slice p6 n6 c6]]) (v:=.agg #[.bool (ng u1),.slice p5 n5 c5]) rfl rfl (ev rfl rfl) rfl ?_)
 refine wl rfl (oextract (vs:=[.agg #[.bool (ng (Int.gcd (m:Int) (n:Int):Int)),.slice p4 n4 c4],.agg #[.bool (ng u1),.slice p5 n5 c5],.agg #[.bool (ng v1),.slice p6 n6 c6]]) (v:=.agg #[.bool (ng v1),.slice p6 n6 c6]) rfl rfl (ev rfl rfl) rfl ?_)
 refine wl rfl (oalloc [.bool false,.slice none 0 0] hS rfl rfl Tryz.zeroValue28 rfl ?_)
 clear hS; intro g7 w8 hS
 refine wl rfl (oalloc [.bool false,.slice none 0 0] hS rfl rfl Tryz.zeroValue28 rfl ?_)
 clear hS; intro g9 w10 hS
 refine wl rfl (oalloc [.bool false,.slice none 0 0] hS rfl rfl Tryz.zeroValue28 rfl ?_)
 clear hS; intro g11 w12 hS
 refine wl rfl (ostore [.bool (ng (Int.gcd (m:Int) (n:Int):Int)),.slice p4 n4 c4] [.bool (ng (Int.gcd (m:Int) (n:Int):Int)),.slice p4 n4 c4] Tryz.sizeOf28 hS 2 rfl rfl (ev rfl rfl) (ev (v:=.agg #[.bool (ng (Int.gcd (m:Int) (n:Int):Int)),.slice p4 n4 c4]) rfl rfl) rfl rfl rfl rfl rfl rfl ?_)
 clear hS; intro w13 hS
 refine wl rfl (ostore [.bool (ng u1),.slice p5 n5 c5] [.bool (ng u1),.slice p5 n5 c5] Tryz.sizeOf28 hS 1 rfl rfl (ev rfl rfl) (ev (v:=.agg #[.bool (ng u1),.slice p5 n5 c5]) rfl rfl) rfl rfl rfl rfl rfl rfl ?_)
 clear hS; intro w14 hS
 refine wl rfl (ostore [.bool (ng v1),.slice p6 n6 c6] [.bool (ng v1),.slice p6 n6 c6] Tryz.sizeOf28 hS 0 rfl rfl (ev rfl rfl) (ev (v:=.agg #[.bool (ng v1),.slice p6 n6 c6]) rfl rfl) rfl rfl rfl rfl rfl rfl ?_)
 clear hS; intro w15 hS
 refine wnil (thenN (wseq (wreg (wl rfl (omove (v:=.slice pb nb cb) rfl rfl (ev rfl rfl) ?_)))))
 refine wl rfl (obuild (ps:=#[(1,.slice pb nb cb)]) (v:=.agg #[.bool false,.slice pb nb cb]) rfl rfl (parts1 (ev (v:=.slice pb nb cb) rfl rfl)) (fun w => by simp [go_sem,Instr.build,Instr.fill]) ?_)
 refine wl rfl (omove (v:=.slice pa na ca) rfl rfl (ev rfl rfl) ?_)
 refine wl rfl (obuild (ps:=#[(1,.slice pa na ca)]) (v:=.agg #[.bool false,.slice pa na ca]) rfl rfl (parts1 (ev (v:=.slice pa na ca) rfl rfl)) (fun w => by simp [go_sem,Instr.build,Instr.fill]) ?_)
 obtain ⟨z7,hz7⟩:∃ z:Int,Hid ((((b:Nat):Int)) - (((a:Nat):Int)) = z):=⟨_,rfl⟩
 have hk7:Wd z7 2097153:=Wd.sub hzb.wd hza.wd hz7 (by omega)
 refine wl rfl (ocall rfl rfl Tryz.call29 rfl (wqsub ((hzb.at hS).mono (by omega)) ((hza.at hS).mono (by omega)) hz7) (args2 (ev rfl rfl) (ev rfl rfl)) ?_)
 rintro _ w16 ⟨_,_,rfl,⟨p7,n7,c7,rfl,rfl⟩,hN⟩
 refine ⟨_,rfl,?_⟩
 replace hS:=hS.news hN; clear hN
 refine wl rfl (oalloc [.bool false,.slice none 0 0] hS rfl rfl Tryz.zeroValue28 rfl ?_)
 clear hS; intro g17 w18 hS
 refine wl rfl (ostore [.bool (ng z7),.slice p7 n7 c7] [.bool (ng z7),.slice p7 n7 c7] Tryz.sizeOf28 hS 0 rfl rfl (ev rfl rfl) (ev (v:=.agg #[.bool (ng z7),.slice p7 n7 c7]) rfl rfl) rfl rfl rfl rfl rfl rfl ?_)
 clear hS; intro w19 hS
 refine wnil (thenN (wseq (wreg (wl rfl (oload (vs:=[.bool (ng z7),.slice p7 n7 c7]) aggZ hS 0 rfl rfl (ev rfl rfl) rfl rfl rfl ?_)))))
 refine wl rfl (oload (vs:=[.bool (ng u1),.slice p5 n5 c5]) aggZ hS 3 rfl rfl (ev rfl rfl) rfl rfl rfl ?_)
 obtain ⟨z8,hz8⟩:∃ z:Int,Hid (z7 * u1 = z):=⟨_,rfl⟩
 have hk8:Wd z8 6291459:=Wd.mul hk7 hk5 hz8 (by omega)
 refine wl rfl (ocall rfl rfl Tryz.call30 rfl (wqmul (((hS.sl 1 rfl).zr hk7).mono (by omega)) (((hS.sl 6 rfl).zr hk5).mono (by omega)) hz8) (args2 (ev rfl rfl) (ev rfl rfl)) ?_)
 rintro _ w20 ⟨_,_,rfl,⟨p8,n8,c8,rfl,rfl⟩,hN⟩
 refine ⟨_,rfl,?_⟩
 replace hS:=hS.news hN; clear hN
 refine wl rfl (omove (v:=.slice pn nn cn) rfl rfl (ev rfl rfl) ?_)
 refine wl rfl (obuild (ps:=#[(1,.slice pn nn cn)]) (v:=.agg #[.bool false,.slice pn nn cn]) rfl rfl (parts1 (ev (v:=.slice pn nn cn) rfl rfl)) (fun w => by simp [go_sem,Instr.build,Instr.fill]) ?_)
 obtain ⟨z9,hz9⟩:∃ z:Int,Hid (z8 / (((n:Nat):Int)) = z):=⟨_,rfl⟩
 have hk9:Wd z9 6291459:=Wd.ediv hk8 hz9
 obtain ⟨z10,hz10⟩:∃ z:Int,Hid (z8 % (((n:Nat):Int)) = z):=⟨_,rfl⟩
 have hk10:Wd z10 2097152:=Wd.emod hzn.wd (by omega) hz10
 refine wl rfl (ocall rfl rfl Tryz.call31 rfl (wqeuclidQ (by omega) (((hS.sl 0 rfl).zr hk8).mono (by omega)) ((hzn.at hS).mono (by omega)) (by omega) hz9 hz10) (args2 (ev rfl rfl) (ev rfl rfl)) ?_)
 rintro _ w21 ⟨_,_,rfl,⟨p9,n9,c9,p10,n10,c10,rfl,rfl⟩,hN⟩
 refine ⟨_,rfl,?_⟩
 replace hS:=hS.news hN; clear hN
 refine wl rfl (omove (v:=.tuple #[.agg #[.bool (ng z9),.slice p9 n9 c9],.agg #[.bool (ng z10),.slice p10 n10 c10]]) rfl rfl (ev rfl rfl) ?_)
 refine wl rfl (oextract (vs:=[.agg #[.bool (ng z9),.slice p9 n9 c9],.agg #[.bool (ng z10),.slice p10 n10 c10]]) (v:=.agg #[.bool (ng z9),.slice p9 n9 c9]) rfl rfl (ev rfl rfl) rfl ?_)
 refine wl rfl (oextract (vs:=[.agg #[.bool (ng z9),.slice p9 n9 c9],.agg #[.bool (ng z10),.slice p10 n10 c10]]) (v:=.agg #[.bool (ng z10),.slice p10 n10 c10]) rfl rfl (ev rfl rfl) rfl ?_)
 refine wl rfl (oalloc [.bool false,.slice none 0 0] hS rfl rfl Tryz.zeroValue28 rfl ?_)
 clear hS; intro g22 w23 hS
 refine wl rfl (oalloc [.bool false,.slice none 0 0] hS rfl rfl Tryz.zeroValue28 rfl ?_)
 clear hS; intro g24 w25 hS
 refine wl rfl (ostore [.bool (ng z9),.slice p9 n9 c9] [.bool (ng z9),.slice p9 n9 c9] Tryz.sizeOf28 hS 1 rfl rfl (ev rfl rfl) (ev (v:=.agg #[.bool (ng z9),.slice p9 n9 c9]) rfl rfl) rfl rfl rfl rfl rfl rfl ?_)
 clear hS; intro w26 hS
 refine wl rfl (ostore [.bool (ng z10),.slice p10 n10 c10] [.bool (ng z10),.slice p10 n10 c10] Tryz.sizeOf28 hS 0 rfl rfl (ev rfl rfl) (ev (v:=.agg #[.bool (ng z10),.slice p10 n10 c10]) rfl rfl) rfl rfl rfl rfl rfl rfl ?_)
 clear hS; intro w27 hS
 refine wnil (thenN (wseq (wreg (wl rfl (omove (v:=.slice pa na ca) rfl rfl (ev rfl rfl) ?_)))))
 refine wl rfl (omove (v:=.slice pm nm cm) rfl rfl (ev rfl rfl) ?_)
 refine wl rfl (ofieldAddr (g:=g24) (off:=0) 1 rfl rfl (ev rfl rfl) Tryz.runUnderlying28 rfl Tryz.sizeOf26 rfl ?_)
 refine wl rfl (oload1 (v:=.slice p10 n10 c10) oneN hS 0 rfl rfl (ev rfl rfl) rfl rfl ?_)
 obtain ⟨x11,hx11⟩:∃ x:Nat,Hid (m * z10.natAbs = x):=⟨_,rfl⟩
 have hkx11:ll x11 ≤ 4194304:=Nd.mul hm.ll hk10 hx11 (by omega)
 refine wl rfl (ocall rfl rfl Tryz.call26 rfl (wmmul ((hm.at hS).mono (by omega)) (((hS.sl 3 rfl).nr hk10).mono (by omega)) hx11) (args2 (ev rfl rfl) (ev rfl rfl)) ?_)
 rintro _ w28 ⟨_,_,rfl,⟨p11,n11,c11,rfl,rfl⟩,hN⟩
 refine ⟨_,rfl,?_⟩
 replace hS:=hS.news hN; clear hN
 obtain ⟨x12,hx12⟩:∃ x:Nat,Hid (a + x11 = x):=⟨_,rfl⟩
 have hkx12:ll x12 ≤ 4194305:=Nd.add ha.ll hkx11 hx12 (by omega)
 refine wl rfl (ocall rfl rfl Tryz.call27 rfl ((wmadd ((ha.at hS).mono (by omega)) (((hS.sl 0 rfl).nr hkx11).mono (by omega)) hx12).mono Nt.m) (args2 (ev rfl rfl) (ev rfl rfl)) ?_)
 rintro _ w29 ⟨_,_,rfl,⟨p12,n12,c12,rfl,rfl⟩,hN⟩
 refine ⟨_,rfl,?_⟩
 replace hS:=hS.news hN; clear hN
 refine wl rfl (omove (v:=.slice pm nm cm) rfl rfl (ev rfl rfl) ?_)
 refine wl rfl (omove (v:=.slice pn nn cn) rfl rfl (ev rfl rfl) ?_)
 obtain ⟨x13,hx13⟩:∃ x:Nat,Hid (m * n = x):=⟨_,rfl⟩
 have hkx13:ll x13 ≤ 4194304:=Nd.mul hm.ll hn.ll hx13 (by omega)
 refine wl rfl (ocall rfl rfl Tryz.call26 rfl ((wmmul ((hm.at hS).mono (by omega)) ((hn.at hS).mono (by omega)) hx13).mono Nt.m) (args2 (ev rfl rfl) (ev rfl rfl)) ?_)
 rintro _ w30 ⟨_,_,rfl,⟨p13,n13,c13,rfl,rfl⟩,hN⟩
 refine ⟨_,rfl,?_⟩
 replace hS:=hS.news hN; clear hN
 refine wl rfl (oassign (v:=.slice p12 n12 c12) rfl rfl (ev rfl rfl) ?_)
 refine wl rfl (oassign (v:=.slice p13 n13 c13) rfl rfl (ev rfl rfl) ?_)
 refine wl rfl (oassign (v:=.int .i64 0) rfl rfl evc ?_)
 refine wnil (thenN ?_)
 refine wleave ?_
 refine wret3 Tryz.results49 (tellT (v:=.slice p12 n12 c12) rfl rfl) (tellT (v:=.slice p13 n13 c13) rfl rfl) (tellT (v:=.int .i64 0) rfl rfl) ?_
 have hKK:=jk_uniq hg (jk_of hb1 hg (by omega) hz7 hz8 hz10) hK
 have e:x12 = a + m * K:=by rw [← hx12.out, ← hx11.out,hKK]
 rw [← e,hx13.out]
 exact ⟨_,_,rfl,⟨_,_,_,_,_,_,rfl,rfl⟩,(show Sep w [.rowm p12 n12 c12 (lim x12),.rowm p13 n13 c13 (lim x13)] w30 from hS.pick [1,0] (by decide) rfl).new rfl⟩
theorem wfjoinE {pa pm pb pn:Option Addr} {na ca nm cm nb cb nn cn a m b n:Nat} {w:World} (ha:Nr w pa na ca a 2097152) (hm:Nr w pm nm cm m 2097152) (hb:Nr w pb nb cb b 2097152) (hn:Nr w pn nn cn n 2097152) (hne:¬ (a < m ∧ b < n ∧ Nat.gcd m n = 1)) :
  Calls Tryz.prog 49 #[.slice pa na ca,.slice pm nm cm,.slice pb nb cb,.slice pn nn cn] w (Ret (Is (.tuple #[.slice none 0 0,.slice none 0 0,.int .i64 (((jne a m b n:Nat):Int))])) w):=by
 have hza:=ha.zr
 have hzm:=hm.zr
 have hzb:=hb.zr
 have hzn:=hn.zr
 have hS:=Sep.init w
 refine went Tryz.func49 rfl (n:=65) rfl rfl ?_
 refine wseq (wreg (wl rfl (oassign (v:=.slice none 0 0) rfl rfl evc ?_)))
 refine wl rfl (oassign (v:=.slice none 0 0) rfl rfl evc ?_)
 refine wl rfl (oassign (v:=.int .i64 0) rfl rfl evc ?_)
 refine wnil (thenN (wseq (wseq (wreg (wl rfl (omove (v:=.slice pa na ca) rfl rfl (ev rfl rfl) ?_))))))
 refine wl rfl (omove (v:=.slice pm nm cm) rfl rfl (ev rfl rfl) ?_)
 by_cases hla:a < m
 ·
  refine wl rfl (ocall rfl rfl Tryz.call34 rfl (wfmay (ha.at hS) (hm.at hS) hla) (args2 (ev rfl rfl) (ev rfl rfl)) ?_)
  rintro _ w1 ⟨_,_,rfl,⟨rfl,rfl⟩,hN⟩
  refine ⟨_,rfl,?_⟩
  replace hS:=hS.news hN; clear hN
  refine wl rfl (onot (b:=true) rfl rfl (ev rfl rfl) ?_)
  refine wl rfl (omove (v:=.bool false) rfl rfl (ev rfl rfl) ?_)
  refine wlOn (e:=21) rfl rfl rfl rfl (omove (v:=.slice pb nb cb) rfl rfl (ev rfl rfl) ?_)
  refine wlOn (e:=21) rfl rfl rfl rfl (omove (v:=.slice pn nn cn) rfl rfl (ev rfl rfl) ?_)
  by_cases hlb:b < n
  ·
   refine wlOn (e:=21) rfl rfl rfl rfl (ocall rfl rfl Tryz.call34 rfl (wfmay (hb.at hS) (hn.at hS) hlb) (args2 (ev rfl rfl) (ev rfl rfl)) ?_)
   rintro _ w2 ⟨_,_,rfl,⟨rfl,rfl⟩,hN⟩
   refine ⟨_,rfl,?_⟩
   replace hS:=hS.news hN; clear hN
   refine wlOn (e:=21) rfl rfl rfl rfl (onot (b:=true) rfl rfl (ev rfl rfl) ?_)
   refine wl rfl (opick (b:=false) (v:=.bool false) rfl rfl (ev rfl rfl) (ev rfl rfl) ?_)
   refine wnil (thenN ?_)
   refine wF (ev rfl rfl) ?_
   refine wskip (thenN (wseq (wseq (wreg (wl rfl (omove (v:=.slice pm nm cm) rfl rfl (ev rfl rfl) ?_))))))
   refine wl rfl (omove (v:=.slice pn nn cn) rfl rfl (ev rfl rfl) ?_)
   obtain ⟨x1,hx1⟩:∃ x:Nat,Hid (Nat.gcd m n = x):=⟨_,rfl⟩
   have hkx1:ll x1 ≤ 2097152:=(Nd.gcd hm.ll hn.ll hx1)
   refine wl rfl (ocall rfl rfl Tryz.call69 rfl (wmgcd ((hm.at hS).mono (by omega)) ((hn.at hS).mono (by omega)) hx1) (args2 (ev rfl rfl) (ev rfl rfl)) ?_)
   rintro _ w3 ⟨_,_,rfl,⟨p1,n1,c1,rfl,rfl⟩,hN⟩
   refine ⟨_,rfl,?_⟩
   replace hS:=hS.news hN; clear hN
   have hkx2:ll 1 ≤ 2:=Nd.u64 (by omega)
   refine wl rfl (ocall rfl rfl Tryz.call25 rfl (wmof (x:=1) (by omega)) (args1 evc) ?_)
   rintro _ w4 ⟨_,_,rfl,⟨p2,n2,c2,rfl,rfl⟩,hN⟩
   refine ⟨_,rfl,?_⟩
   replace hS:=hS.news hN; clear hN
   obtain ⟨s3,hs3⟩:∃ z:Int,Hid (cmpN x1 1 = z):=⟨_,rfl⟩
   refine wl rfl (ocall rfl rfl Tryz.call20 rfl (wmcmp ((hS.sl 1 rfl).nr hkx1) ((hS.sl 0 rfl).nr hkx2) hs3) (args2 (ev rfl rfl) (ev rfl rfl)) ?_)
   rintro _ w5 ⟨_,_,rfl,⟨rfl,rfl⟩,hN⟩
   refine ⟨_,rfl,?_⟩
   replace hS:=hS.news hN; clear hN
   have hng:Nat.gcd m n ≠ 1:=fun h => hne ⟨hla,hlb,h⟩
   have hcode:=jne_60 hla hlb hng
   refine wl rfl (obin (u:=.int .i64 s3) (v:=.int .i64 0) (z:=.bool true) rfl rfl (ev rfl rfl) evc (bin_neq (cmpN_neT hs3 (by rw [← hx1.out]; exact hng))) ?_)
   refine wnil (thenN ?_)
   refine wT (ev rfl rfl) ?_
   refine wseq (wreg (wl rfl (oassign (v:=.slice none 0 0) rfl rfl evc ?_)))
   refine wl rfl (oassign (v:=.slice none 0 0) rfl rfl evc ?_)
   refine wl rfl (oassign (v:=.int .i64 60) rfl rfl evc ?_)
   refine wnil (thenN ?_)
   refine wleave ?_
   refine thenR ?_
   refine wret3 Tryz.results49 (tellT (v:=.slice none 0 0) rfl rfl) (tellT (v:=.slice none 0 0) rfl rfl) (tellT (v:=.int .i64 60) rfl rfl) ?_
   exact ⟨_,_,rfl,⟨by rw [hcode]; rfl,rfl⟩,hS.new0⟩
  ·
   refine wlOn (e:=21) rfl rfl rfl rfl (ocall rfl rfl Tryz.call34 rfl (wfmayN (hb.at hS) (hn.at hS) hlb) (args2 (ev rfl rfl) (ev rfl rfl)) ?_)
   rintro _ w2 ⟨_,_,rfl,⟨rfl,rfl⟩,hN⟩
   refine ⟨_,rfl,?_⟩
   replace hS:=hS.news hN; clear hN
   refine wlOn (e:=21) rfl rfl rfl rfl (onot (b:=false) rfl rfl (ev rfl rfl) ?_)
   refine wl rfl (opick (b:=false) (v:=.bool true) rfl rfl (ev rfl rfl) (ev rfl rfl) ?_)
   refine wnil (thenN ?_)
   refine wT (ev rfl rfl) ?_
   refine wseq (wreg (wl rfl (oassign (v:=.slice none 0 0) rfl rfl evc ?_)))
   refine wl rfl (oassign (v:=.slice none 0 0) rfl rfl evc ?_)
   refine wl rfl (oassign (v:=.int .i64 1) rfl rfl evc ?_)
   refine wnil (thenN ?_)
   refine wleave ?_
   refine thenR ?_
   have hcode:jne a m b n = 1:=jne_1 (by omega)
   refine wret3 Tryz.results49 (tellT (v:=.slice none 0 0) rfl rfl) (tellT (v:=.slice none 0 0) rfl rfl) (tellT (v:=.int .i64 1) rfl rfl) ?_
   exact ⟨_,_,rfl,⟨by rw [hcode]; rfl,rfl⟩,hS.new0⟩
 ·
  refine wl rfl (ocall rfl rfl Tryz.call34 rfl (wfmayN (ha.at hS) (hm.at hS) hla) (args2 (ev rfl rfl) (ev rfl rfl)) ?_)
  rintro _ w1 ⟨_,_,rfl,⟨rfl,rfl⟩,hN⟩
  refine ⟨_,rfl,?_⟩
  replace hS:=hS.news hN; clear hN
  refine wl rfl (onot (b:=false) rfl rfl (ev rfl rfl) ?_)
  refine wl rfl (omove (v:=.bool true) rfl rfl (ev rfl rfl) ?_)
  refine wlOff (e:=21) (d:=22) (b':=true) rfl rfl rfl rfl rfl rfl ?_
  refine wlOff (e:=21) (d:=23) (b':=true) rfl rfl rfl rfl rfl rfl ?_
  refine wlOff (e:=21) (d:=24) (b':=true) rfl rfl rfl rfl rfl rfl ?_
  refine wlOff (e:=21) (d:=25) (b':=true) rfl rfl rfl rfl rfl rfl ?_
  refine wl rfl (opick (b:=true) (v:=.bool true) rfl rfl (ev rfl rfl) evc ?_)
  refine wnil (thenN ?_)
  refine wT (ev rfl rfl) ?_
  refine wseq (wreg (wl rfl (oassign (v:=.slice none 0 0) rfl rfl evc ?_)))
  refine wl rfl (oassign (v:=.slice none 0 0) rfl rfl evc ?_)
  refine wl rfl (oassign (v:=.int .i64 1) rfl rfl evc ?_)
  refine wnil (thenN ?_)
  refine wleave ?_
  refine thenR ?_
  have hcode:jne a m b n = 1:=jne_1 (by omega)
  refine wret3 Tryz.results49 (tellT (v:=.slice none 0 0) rfl rfl) (tellT (v:=.slice none 0 0) rfl rfl) (tellT (v:=.int .i64 1) rfl rfl) ?_
  exact ⟨_,_,rfl,⟨by rw [hcode]; rfl,rfl⟩,hS.new0⟩
theorem crtJoins_walk0 {pa pm pb pn:Option Addr} {na ca nm cm nb cb nn cn a m b n:Nat} {b0 b1 b2 b3:Bool} {w:World} (ht:Tb w) (ha:Nr w pa na ca a 2097152) (hm:Nr w pm nm cm m 2097152) (hb:Nr w pb nb cb b 2097152) (hn:Nr w pn nn cn n 2097152)  :
  Calls Tryz.prog 10 #[.agg #[.bool b0,.slice pa na ca,.bool b1,.slice pm nm cm],.agg #[.bool b2,.slice pb nb cb,.bool b3,.slice pn nn cn]] w (Ret (Is (.bool true)) w):=by
 have hS:=Sep.init w
 refine went Tryz.func10 rfl (n:=62) rfl rfl ?_
 refine wseq (wreg (wl rfl (obox [.bool b0,.slice pa na ca,.bool b1,.slice pm nm cm] hS rfl rfl (ev (v:=.agg #[.bool b0,.slice pa na ca,.bool b1,.slice pm nm cm]) rfl rfl) rfl ?_)))
 clear hS; intro g1 w2 hS
 refine wl rfl (obox [.bool b2,.slice pb nb cb,.bool b3,.slice pn nn cn] hS rfl rfl (ev (v:=.agg #[.bool b2,.slice pb nb cb,.bool b3,.slice pn nn cn]) rfl rfl) rfl ?_)
 clear hS; intro g3 w4 hS
 refine wl rfl (oassign (v:=.bool false) rfl rfl evc ?_)
 refine wnil (thenN (wseq ?_))
 refine wstage 16 [15,16,17,18,19,20,21,22,23,24,25,26,5,6,7,8] [[],[0],[1,0],[],[3],[4,3],[],[6],[7,6],[],[9],[10,9],[2,0,1],[5,0,1,2,3,4,12],[8,0,1,2,3,4,5,6,7,12,13],[11,0,1,2,3,4,5,6,7,8,9,10,12,13,14]] [[],[],[],[],[],[],[],[],[],[],[],[],[],[],[],[]] [] [] (fun i9 => ([fun _ => Is (.pointer (some ⟨g1,0,none⟩)),fun _ => Is (.pointer (some ⟨g1,1,none⟩)),fun _ => Is (.slice pa na ca),fun _ => Is (.pointer (some ⟨g1,2,none⟩)),fun _ => Is (.pointer (some ⟨g1,3,none⟩)),fun _ => Is (.slice pm nm cm),fun _ => Is (.pointer (some ⟨g3,0,none⟩)),fun _ => Is (.pointer (some ⟨g3,1,none⟩)),fun _ => Is (.slice pb nb cb),fun _ => Is (.pointer (some ⟨g3,2,none⟩)),fun _ => Is (.pointer (some ⟨g3,3,none⟩)),fun _ => Is (.slice pn nn cn),fun _ => Is (.slice pa na ca),fun _ => Is (.slice pm nm cm),fun _ => Is (.slice pb nb cb),fun _ => Is (.slice pn nn cn)]:List (List Value → Tell)).getD i9 (fun _ _ _ => False)) (heldNil) (fun d _ _ _ _ h => (by cases d <;> exact h)) (by kernel_rfl) (by kernel_rfl) (by kernel_rfl) hS ?_ ?_
 ·
  refine stepsCons rfl (fun Q f' w' ρ S ho hT hS hB => ?_) ?_
  ·exact .inl ⟨want_none rfl,ofieldAddr (g:=g1) (off:=0) 0 rfl rfl (ev rfl (ho 2 rfl)) Tryz.runUnderlying30 rfl Tryz.sizeOf28 rfl ⟨_,_,rfl,isI,New.same _⟩⟩
  refine stepsCons rfl (fun Q f' w' ρ S ho hT hS hB => ?_) ?_
  ·obtain ⟨hv0,hr0⟩:=(hT 0 15 rfl rfl:(Is (.pointer (some ⟨g1,0,none⟩))) _ _)
   obtain hS:=hS.flat1 hr0
   exact .inl ⟨want_none rfl,ofieldAddr (g:=g1) (off:=0) 1 rfl rfl (ev rfl hv0) Tryz.runUnderlying28 rfl Tryz.sizeOf26 rfl ⟨_,_,rfl,isI,New.same _⟩⟩
  refine stepsCons rfl (fun Q f' w' ρ S ho hT hS hB => ?_) ?_
  ·obtain ⟨hv1,hr1⟩:=(hT 1 16 rfl rfl:(Is (.pointer (some ⟨g1,1,none⟩))) _ _)
   obtain hS:=hS.flat1 hr1
   exact .inl ⟨want_none rfl,oload1 (v:=.slice pa na ca) oneN hS 1 rfl rfl (ev rfl hv1) rfl rfl ⟨_,_,rfl,isI,New.same _⟩⟩
  refine stepsCons rfl (fun Q f' w' ρ S ho hT hS hB => ?_) ?_
  ·exact .inl ⟨want_none rfl,ofieldAddr (g:=g1) (off:=0) 2 rfl rfl (ev rfl (ho 2 rfl)) Tryz.runUnderlying30 rfl Tryz.sizeOf28 rfl ⟨_,_,rfl,isI,New.same _⟩⟩
  refine stepsCons rfl (fun Q f' w' ρ S ho hT hS hB => ?_) ?_
  ·obtain ⟨hv3,hr3⟩:=(hT 3 18 rfl rfl:(Is (.pointer (some ⟨g1,2,none⟩))) _ _)
   obtain hS:=hS.flat1 hr3
   exact .inl ⟨want_none rfl,ofieldAddr (g:=g1) (off:=2) 3 rfl rfl (ev rfl hv3) Tryz.runUnderlying28 rfl Tryz.sizeOf26 rfl ⟨_,_,rfl,isI,New.same _⟩⟩
  refine stepsCons rfl (fun Q f' w' ρ S ho hT hS hB => ?_) ?_
  ·obtain ⟨hv4,hr4⟩:=(hT 4 19 rfl rfl:(Is (.pointer (some ⟨g1,3,none⟩))) _ _)
   obtain hS:=hS.flat1 hr4
   exact .inl ⟨want_none rfl,oload1 (v:=.slice pm nm cm) oneN hS 1 rfl rfl (ev rfl hv4) rfl rfl ⟨_,_,rfl,isI,New.same _⟩⟩
  refine stepsCons rfl (fun Q f' w' ρ S ho hT hS hB => ?_) ?_
  ·exact .inl ⟨want_none rfl,ofieldAddr (g:=g3) (off:=0) 0 rfl rfl (ev rfl (ho 3 rfl)) Tryz.runUnderlying30 rfl Tryz.sizeOf28 rfl ⟨_,_,rfl,isI,New.same _⟩⟩
  refine stepsCons rfl (fun Q f' w' ρ S ho hT hS hB => ?_) ?_
  ·obtain ⟨hv6,hr6⟩:=(hT 6 21 rfl rfl:(Is (.pointer (some ⟨g3,0,none⟩))) _ _)
   obtain hS:=hS.flat1 hr6
   exact .inl ⟨want_none rfl,ofieldAddr (g:=g3) (off:=0) 1 rfl rfl (ev rfl hv6) Tryz.runUnderlying28 rfl Tryz.sizeOf26 rfl ⟨_,_,rfl,isI,New.same _⟩⟩
  refine stepsCons rfl (fun Q f' w' ρ S ho hT hS hB => ?_) ?_
  ·obtain ⟨hv7,hr7⟩:=(hT 7 22 rfl rfl:(Is (.pointer (some ⟨g3,1,none⟩))) _ _)
   obtain hS:=hS.flat1 hr7
   exact .inl ⟨want_none rfl,oload1 (v:=.slice pb nb cb) oneN hS 0 rfl rfl (ev rfl hv7) rfl rfl ⟨_,_,rfl,isI,New.same _⟩⟩
  refine stepsCons rfl (fun Q f' w' ρ S ho hT hS hB => ?_) ?_
  ·exact .inl ⟨want_none rfl,ofieldAddr (g:=g3) (off:=0) 2 rfl rfl (ev rfl (ho 3 rfl)) Tryz.runUnderlying30 rfl Tryz.sizeOf28 rfl ⟨_,_,rfl,isI,New.same _⟩⟩
  refine stepsCons rfl (fun Q f' w' ρ S ho hT hS hB => ?_) ?_
  ·obtain ⟨hv9,hr9⟩:=(hT 9 24 rfl rfl:(Is (.pointer (some ⟨g3,2,none⟩))) _ _)
   obtain hS:=hS.flat1 hr9
   exact .inl ⟨want_none rfl,ofieldAddr (g:=g3) (off:=2) 3 rfl rfl (ev rfl hv9) Tryz.runUnderlying28 rfl Tryz.sizeOf26 rfl ⟨_,_,rfl,isI,New.same _⟩⟩
  refine stepsCons rfl (fun Q f' w' ρ S ho hT hS hB => ?_) ?_
  ·obtain ⟨hv10,hr10⟩:=(hT 10 25 rfl rfl:(Is (.pointer (some ⟨g3,3,none⟩))) _ _)
   obtain hS:=hS.flat1 hr10
   exact .inl ⟨want_none rfl,oload1 (v:=.slice pn nn cn) oneN hS 0 rfl rfl (ev rfl hv10) rfl rfl ⟨_,_,rfl,isI,New.same _⟩⟩
  refine stepsCons rfl (fun Q f' w' ρ S ho hT hS hB => ?_) ?_
  ·obtain ⟨hv2,hr2⟩:=(hT 2 17 rfl rfl:(Is (.slice pa na ca)) _ _)
   obtain hS:=hS.flat1 hr2
   exact .inl ⟨want_none rfl,oassign (v:=.slice pa na ca) rfl rfl (ev rfl hv2) ⟨_,_,rfl,isI,New.same _⟩⟩
  refine stepsCons rfl (fun Q f' w' ρ S ho hT hS hB => ?_) ?_
  ·obtain ⟨hv5,hr5⟩:=(hT 5 20 rfl rfl:(Is (.slice pm nm cm)) _ _)
   obtain hS:=hS.flat1 hr5
   exact .inl ⟨want_none rfl,oassign (v:=.slice pm nm cm) rfl rfl (ev rfl hv5) ⟨_,_,rfl,isI,New.same _⟩⟩
  refine stepsCons rfl (fun Q f' w' ρ S ho hT hS hB => ?_) ?_
  ·obtain ⟨hv8,hr8⟩:=(hT 8 23 rfl rfl:(Is (.slice pb nb cb)) _ _)
   obtain hS:=hS.flat1 hr8
   exact .inl ⟨want_none rfl,oassign (v:=.slice pb nb cb) rfl rfl (ev rfl hv8) ⟨_,_,rfl,isI,New.same _⟩⟩
  refine stepsCons rfl (fun Q f' w' ρ S ho hT hS hB => ?_) ?_
  ·obtain ⟨hv11,hr11⟩:=(hT 11 26 rfl rfl:(Is (.slice pn nn cn)) _ _)
   obtain hS:=hS.flat1 hr11
   exact .inl ⟨want_none rfl,oassign (v:=.slice pn nn cn) rfl rfl (ev rfl hv11) ⟨_,_,rfl,isI,New.same _⟩⟩
  exact stepsNil
 ·
  intro vs ρ w5 f' hf hT hS
  obtain ⟨hv0,hr0⟩:=(hT 0 (by decide):(Is (.pointer (some ⟨g1,0,none⟩))) _ _)
  obtain ⟨hv1,hr1⟩:=(hT 1 (by decide):(Is (.pointer (some ⟨g1,1,none⟩))) _ _)
  obtain ⟨hv2,hr2⟩:=(hT 2 (by decide):(Is (.slice pa na ca)) _ _)
  obtain ⟨hv3,hr3⟩:=(hT 3 (by decide):(Is (.pointer (some ⟨g1,2,none⟩))) _ _)
  obtain ⟨hv4,hr4⟩:=(hT 4 (by decide):(Is (.pointer (some ⟨g1,3,none⟩))) _ _)
  obtain ⟨hv5,hr5⟩:=(hT 5 (by decide):(Is (.slice pm nm cm)) _ _)
  obtain ⟨hv6,hr6⟩:=(hT 6 (by decide):(Is (.pointer (some ⟨g3,0,none⟩))) _ _)
  obtain ⟨hv7,hr7⟩:=(hT 7 (by decide):(Is (.pointer (some ⟨g3,1,none⟩))) _ _)
  obtain ⟨hv8,hr8⟩:=(hT 8 (by decide):(Is (.slice pb nb cb)) _ _)
  obtain ⟨hv9,hr9⟩:=(hT 9 (by decide):(Is (.pointer (some ⟨g3,2,none⟩))) _ _)
  obtain ⟨hv10,hr10⟩:=(hT 10 (by decide):(Is (.pointer (some ⟨g3,3,none⟩))) _ _)
  obtain ⟨hv11,hr11⟩:=(hT 11 (by decide):(Is (.slice pn nn cn)) _ _)
  obtain ⟨hv12,hr12⟩:=(hT 12 (by decide):(Is (.slice pa na ca)) _ _)
  obtain ⟨hv13,hr13⟩:=(hT 13 (by decide):(Is (.slice pm nm cm)) _ _)
  obtain ⟨hv14,hr14⟩:=(hT 14 (by decide):(Is (.slice pb nb cb)) _ _)
  obtain ⟨hv15,hr15⟩:=(hT 15 (by decide):(Is (.slice pn nn cn)) _ _)
  simp only [pool,if_true,hr0,hr1,hr2,hr3,hr4,hr5,hr6,hr7,hr8,hr9,hr10,hr11,hr12,hr13,hr14,hr15,List.nil_append,List.cons_append,List.append_nil] at hS
  simp only [layf,hv0,hv1,hv2,hv3,hv4,hv5,hv6,hv7,hv8,hv9,hv10,hv11,hv12,hv13,hv14,hv15] at hf
  subst hf; clear hT hv0 hv1 hv2 hv3 hv4 hv5 hv6 hv7 hv8 hv9 hv10 hv11 hv12 hv13 hv14 hv15 hr0 hr1 hr2 hr3 hr4 hr5 hr6 hr7 hr8 hr9 hr10 hr11 hr12 hr13 hr14 hr15
  refine wdone rfl ?_
  refine thenN (wseq (wreg (wl rfl (omove (v:=.slice pa na ca) rfl rfl (ev rfl rfl) ?_))))
  refine wl rfl (omove (v:=.slice pm nm cm) rfl rfl (ev rfl rfl) ?_)
  refine wl rfl (omove (v:=.slice pb nb cb) rfl rfl (ev rfl rfl) ?_)
  refine wl rfl (omove (v:=.slice pn nn cn) rfl rfl (ev rfl rfl) ?_)
  by_cases hok:a < m ∧ b < n ∧ Nat.gcd m n = 1
  ·
   obtain ⟨hla,hlb,hg⟩:=hok
   obtain ⟨K,hK⟩:=jk_some (a:=a) (b:=b) hg (by omega)
   have hkB:ll (m * n) ≤ 4194305:=llv_mul hm.ll hn.ll (by omega)
   have hkA:ll (a + m * K) ≤ 4194305:=llv_add (i:=4194304) (Nat.le_trans (llv_le (Nat.le_of_lt hla) hm.ll) (by omega)) (llv_mul hm.ll (llv_le (Nat.le_of_lt hK.1) hn.ll) (by omega)) (by omega)
   refine wl rfl (ocall rfl rfl Tryz.call48 rfl (wcjoin (ha.at hS) (hm.at hS) (hb.at hS) (hn.at hS) hla hlb hg hK) (args4 (ev rfl rfl) (ev rfl rfl) (ev rfl rfl) (ev rfl rfl)) ?_)
   rintro _ w6 ⟨_,_,rfl,⟨pva,nva,cva,pvb,nvb,cvb,rfl,rfl⟩,hN⟩
   refine ⟨_,rfl,?_⟩
   replace hS:=hS.news hN; clear hN
   refine wl rfl (omove (v:=.tuple #[.slice pva nva cva,.slice pvb nvb cvb,.int .i64 0]) rfl rfl (ev rfl rfl) ?_)
   refine wl rfl (oextract (vs:=[.slice pva nva cva,.slice pvb nvb cvb,.int .i64 0]) (v:=.slice pva nva cva) rfl rfl (ev rfl rfl) rfl ?_)
   refine wl rfl (oextract (vs:=[.slice pva nva cva,.slice pvb nvb cvb,.int .i64 0]) (v:=.slice pvb nvb cvb) rfl rfl (ev rfl rfl) rfl ?_)
   refine wl rfl (oextract (vs:=[.slice pva nva cva,.slice pvb nvb cvb,.int .i64 0]) (v:=.int .i64 0) rfl rfl (ev rfl rfl) rfl ?_)
   refine wl rfl (oassign (v:=.slice pva nva cva) rfl rfl (ev rfl rfl) ?_)
   refine wl rfl (oassign (v:=.slice pvb nvb cvb) rfl rfl (ev rfl rfl) ?_)
   refine wl rfl (oassign (v:=.int .i64 0) rfl rfl (ev rfl rfl) ?_)
   refine wnil (thenN (wseq (wreg (wl rfl (omove (v:=.slice pa na ca) rfl rfl (ev rfl rfl) ?_)))))
   refine wl rfl (omove (v:=.slice pm nm cm) rfl rfl (ev rfl rfl) ?_)
   refine wl rfl (omove (v:=.slice pb nb cb) rfl rfl (ev rfl rfl) ?_)
   refine wl rfl (omove (v:=.slice pn nn cn) rfl rfl (ev rfl rfl) ?_)
   refine wl rfl (ocall rfl rfl Tryz.call49 rfl (wfjoin (ha.at hS) (hm.at hS) (hb.at hS) (hn.at hS) hla hlb hg hK) (args4 (ev rfl rfl) (ev rfl rfl) (ev rfl rfl) (ev rfl rfl)) ?_)
   rintro _ w7 ⟨_,_,rfl,⟨pya,nya,cya,pyb,nyb,cyb,rfl,rfl⟩,hN⟩
   refine ⟨_,rfl,?_⟩
   replace hS:=hS.news hN; clear hN
   refine wl rfl (omove (v:=.tuple #[.slice pya nya cya,.slice pyb nyb cyb,.int .i64 0]) rfl rfl (ev rfl rfl) ?_)
   refine wl rfl (oextract (vs:=[.slice pya nya cya,.slice pyb nyb cyb,.int .i64 0]) (v:=.slice pya nya cya) rfl rfl (ev rfl rfl) rfl ?_)
   refine wl rfl (oextract (vs:=[.slice pya nya cya,.slice pyb nyb cyb,.int .i64 0]) (v:=.slice pyb nyb cyb) rfl rfl (ev rfl rfl) rfl ?_)
   refine wl rfl (oextract (vs:=[.slice pya nya cya,.slice pyb nyb cyb,.int .i64 0]) (v:=.int .i64 0) rfl rfl (ev rfl rfl) rfl ?_)
   refine wl rfl (oassign (v:=.slice pya nya cya) rfl rfl (ev rfl rfl) ?_)
   refine wl rfl (oassign (v:=.slice pyb nyb cyb) rfl rfl (ev rfl rfl) ?_)
   refine wl rfl (oassign (v:=.int .i64 0) rfl rfl (ev rfl rfl) ?_)
   refine wnil (thenN (wseq (wreg (wl rfl (omove (v:=.int .i64 0) rfl rfl (ev rfl rfl) ?_)))))
   refine wl rfl (ocall rfl rfl Tryz.call13 rfl (wlnum6) (args1 (ev rfl rfl)) ?_)
   rintro _ w8 ⟨_,_,rfl,⟨rfl,rfl⟩,hN⟩
   refine ⟨_,rfl,?_⟩
   replace hS:=hS.news hN; clear hN
   refine wl rfl (omove (v:=.int .i64 0) rfl rfl (ev rfl rfl) ?_)
   refine wl rfl (obin (u:=.int .i64 0) (v:=.int .i64 0) (z:=.bool true) rfl rfl (ev rfl rfl) (ev rfl rfl) (bin_eql (by decide)) ?_)
   refine wl rfl (omove (v:=.bool true) rfl rfl (ev rfl rfl) ?_)
   refine wlOn (e:=49) rfl rfl rfl rfl (omove (v:=.slice pva nva cva) rfl rfl (ev rfl rfl) ?_)
   refine wlOn (e:=49) rfl rfl rfl rfl (omove (v:=.slice pya nya cya) rfl rfl (ev rfl rfl) ?_)
   refine wlOn (e:=49) rfl rfl rfl rfl (ocall rfl rfl Tryz.call21 rfl (wlsame6 (x:=a + m * K) (y:=a + m * K) (hS.slm 2 rfl) (((hS.slm 0 rfl).nr hkA).mono (by omega)) (rfl)) (args2 (ev rfl rfl) (ev rfl rfl)) ?_)
   rintro _ w9 ⟨_,_,rfl,⟨rfl,rfl⟩,hN⟩
   refine ⟨_,rfl,?_⟩
   replace hS:=hS.news hN; clear hN
   refine wl rfl (opick (b:=true) (v:=.bool true) rfl rfl (ev rfl rfl) (ev rfl rfl) ?_)
   refine wl rfl (omove (v:=.bool true) rfl rfl (ev rfl rfl) ?_)
   refine wlOn (e:=54) rfl rfl rfl rfl (omove (v:=.slice pvb nvb cvb) rfl rfl (ev rfl rfl) ?_)
   refine wlOn (e:=54) rfl rfl rfl rfl (omove (v:=.slice pyb nyb cyb) rfl rfl (ev rfl rfl) ?_)
   refine wlOn (e:=54) rfl rfl rfl rfl (ocall rfl rfl Tryz.call21 rfl (wlsame6 (x:=m * n) (y:=m * n) (hS.slm 3 rfl) (((hS.slm 1 rfl).nr hkB).mono (by omega)) (rfl)) (args2 (ev rfl rfl) (ev rfl rfl)) ?_)
   rintro _ w10 ⟨_,_,rfl,⟨rfl,rfl⟩,hN⟩
   refine ⟨_,rfl,?_⟩
   replace hS:=hS.news hN; clear hN
   refine wl rfl (opick (b:=true) (v:=.bool true) rfl rfl (ev rfl rfl) (ev rfl rfl) ?_)
   refine wl rfl (omove (v:=.bool true) rfl rfl (ev rfl rfl) ?_)
   refine wlOn (e:=59) rfl rfl rfl rfl (ocall rfl rfl Tryz.call14 rfl (wlawake6 (ht.at hS)) (args0 ) ?_)
   rintro _ w11 ⟨_,_,rfl,⟨rfl,rfl⟩,hN⟩
   refine ⟨_,rfl,?_⟩
   replace hS:=hS.news hN; clear hN
   refine wl rfl (opick (b:=true) (v:=.bool true) rfl rfl (ev rfl rfl) (ev rfl rfl) ?_)
   refine wl rfl (oassign (v:=.bool true) rfl rfl (ev rfl rfl) ?_)
   refine wnil (thenN ?_)
   refine wleave ?_
   refine wret1 Tryz.results10 (tellT (v:=.bool true) rfl rfl) ?_
   exact ⟨_,_,rfl,isI,hS.new0⟩
  ·
   refine wl rfl (ocall rfl rfl Tryz.call48 rfl (wcjoinE (ha.at hS) (hm.at hS) (hb.at hS) (hn.at hS) hok) (args4 (ev rfl rfl) (ev rfl rfl) (ev rfl rfl) (ev rfl rfl)) ?_)
   rintro _ w6 ⟨_,_,rfl,⟨rfl,rfl⟩,hN⟩
   refine ⟨_,rfl,?_⟩
   replace hS:=hS.news hN; clear hN
   refine wl rfl (omove (v:=.tuple #[.slice none 0 0,.slice none 0 0,.int .i64 (((jne a m b n:Nat):Int))]) rfl rfl (ev rfl rfl) ?_)
   refine wl rfl (oextract (vs:=[.slice none 0 0,.slice none 0 0,.int .i64 (((jne a m b n:Nat):Int))]) (v:=.slice none 0 0) rfl rfl (ev rfl rfl) rfl ?_)
   refine wl rfl (oextract (vs:=[.slice none 0 0,.slice none 0 0,.int .i64 (((jne a m b n:Nat):Int))]) (v:=.slice none 0 0) rfl rfl (ev rfl rfl) rfl ?_)
   refine wl rfl (oextract (vs:=[.slice none 0 0,.slice none 0 0,.int .i64 (((jne a m b n:Nat):Int))]) (v:=.int .i64 (((jne a m b n:Nat):Int))) rfl rfl (ev rfl rfl) rfl ?_)
   refine wl rfl (oassign (v:=.slice none 0 0) rfl rfl (ev rfl rfl) ?_)
   refine wl rfl (oassign (v:=.slice none 0 0) rfl rfl (ev rfl rfl) ?_)
   refine wl rfl (oassign (v:=.int .i64 (((jne a m b n:Nat):Int))) rfl rfl (ev rfl rfl) ?_)
   refine wnil (thenN (wseq (wreg (wl rfl (omove (v:=.slice pa na ca) rfl rfl (ev rfl rfl) ?_)))))
   refine wl rfl (omove (v:=.slice pm nm cm) rfl rfl (ev rfl rfl) ?_)
   refine wl rfl (omove (v:=.slice pb nb cb) rfl rfl (ev rfl rfl) ?_)
   refine wl rfl (omove (v:=.slice pn nn cn) rfl rfl (ev rfl rfl) ?_)
   refine wl rfl (ocall rfl rfl Tryz.call49 rfl (wfjoinE (ha.at hS) (hm.at hS) (hb.at hS) (hn.at hS) hok) (args4 (ev rfl rfl) (ev rfl rfl) (ev rfl rfl) (ev rfl rfl)) ?_)
   rintro _ w7 ⟨_,_,rfl,⟨rfl,rfl⟩,hN⟩
   refine ⟨_,rfl,?_⟩
   replace hS:=hS.news hN; clear hN
   refine wl rfl (omove (v:=.tuple #[.slice none 0 0,.slice none 0 0,.int .i64 (((jne a m b n:Nat):Int))]) rfl rfl (ev rfl rfl) ?_)
   refine wl rfl (oextract (vs:=[.slice none 0 0,.slice none 0 0,.int .i64 (((jne a m b n:Nat):Int))]) (v:=.slice none 0 0) rfl rfl (ev rfl rfl) rfl ?_)
   refine wl rfl (oextract (vs:=[.slice none 0 0,.slice none 0 0,.int .i64 (((jne a m b n:Nat):Int))]) (v:=.slice none 0 0) rfl rfl (ev rfl rfl) rfl ?_)
   refine wl rfl (oextract (vs:=[.slice none 0 0,.slice none 0 0,.int .i64 (((jne a m b n:Nat):Int))]) (v:=.int .i64 (((jne a m b n:Nat):Int))) rfl rfl (ev rfl rfl) rfl ?_)
   refine wl rfl (oassign (v:=.slice none 0 0) rfl rfl (ev rfl rfl) ?_)
   refine wl rfl (oassign (v:=.slice none 0 0) rfl rfl (ev rfl rfl) ?_)
   refine wl rfl (oassign (v:=.int .i64 (((jne a m b n:Nat):Int))) rfl rfl (ev rfl rfl) ?_)
   refine wnil (thenN (wseq (wreg (wl rfl (omove (v:=.int .i64 (((jne a m b n:Nat):Int))) rfl rfl (ev rfl rfl) ?_)))))
   refine wl rfl (ocall rfl rfl Tryz.call13 rfl (wlnum6) (args1 (ev rfl rfl)) ?_)
   rintro _ w8 ⟨_,_,rfl,⟨rfl,rfl⟩,hN⟩
   refine ⟨_,rfl,?_⟩
   replace hS:=hS.news hN; clear hN
   refine wl rfl (omove (v:=.int .i64 (((jne a m b n:Nat):Int))) rfl rfl (ev rfl rfl) ?_)
   refine wl rfl (obin (u:=.int .i64 (((jne a m b n:Nat):Int))) (v:=.int .i64 (((jne a m b n:Nat):Int))) (z:=.bool true) rfl rfl (ev rfl rfl) (ev rfl rfl) (bin_eql (eqT rfl)) ?_)
   refine wl rfl (omove (v:=.bool true) rfl rfl (ev rfl rfl) ?_)
   refine wlOn (e:=49) rfl rfl rfl rfl (omove (v:=.slice none 0 0) rfl rfl (ev rfl rfl) ?_)
   refine wlOn (e:=49) rfl rfl rfl rfl (omove (v:=.slice none 0 0) rfl rfl (ev rfl rfl) ?_)
   refine wlOn (e:=49) rfl rfl rfl rfl (ocall rfl rfl Tryz.call21 rfl (wlsame6 (x:=0) (y:=0) (Sl.nil _) ((Nr.nil _).mono (by omega)) (rfl)) (args2 (ev rfl rfl) (ev rfl rfl)) ?_)
   rintro _ w9 ⟨_,_,rfl,⟨rfl,rfl⟩,hN⟩
   refine ⟨_,rfl,?_⟩
   replace hS:=hS.news hN; clear hN
   refine wl rfl (opick (b:=true) (v:=.bool true) rfl rfl (ev rfl rfl) (ev rfl rfl) ?_)
   refine wl rfl (omove (v:=.bool true) rfl rfl (ev rfl rfl) ?_)
   refine wlOn (e:=54) rfl rfl rfl rfl (omove (v:=.slice none 0 0) rfl rfl (ev rfl rfl) ?_)
   refine wlOn (e:=54) rfl rfl rfl rfl (omove (v:=.slice none 0 0) rfl rfl (ev rfl rfl) ?_)
   refine wlOn (e:=54) rfl rfl rfl rfl (ocall rfl rfl Tryz.call21 rfl (wlsame6 (x:=0) (y:=0) (Sl.nil _) ((Nr.nil _).mono (by omega)) (rfl)) (args2 (ev rfl rfl) (ev rfl rfl)) ?_)
   rintro _ w10 ⟨_,_,rfl,⟨rfl,rfl⟩,hN⟩
   refine ⟨_,rfl,?_⟩
   replace hS:=hS.news hN; clear hN
   refine wl rfl (opick (b:=true) (v:=.bool true) rfl rfl (ev rfl rfl) (ev rfl rfl) ?_)
   refine wl rfl (omove (v:=.bool true) rfl rfl (ev rfl rfl) ?_)
   refine wlOn (e:=59) rfl rfl rfl rfl (ocall rfl rfl Tryz.call14 rfl (wlawake6 (ht.at hS)) (args0 ) ?_)
   rintro _ w11 ⟨_,_,rfl,⟨rfl,rfl⟩,hN⟩
   refine ⟨_,rfl,?_⟩
   replace hS:=hS.news hN; clear hN
   refine wl rfl (opick (b:=true) (v:=.bool true) rfl rfl (ev rfl rfl) (ev rfl rfl) ?_)
   refine wl rfl (oassign (v:=.bool true) rfl rfl (ev rfl rfl) ?_)
   refine wnil (thenN ?_)
   refine wleave ?_
   refine wret1 Tryz.results10 (tellT (v:=.bool true) rfl rfl) ?_
   exact ⟨_,_,rfl,isI,hS.new0⟩
theorem crtJoins_walk {b0 b1 b2 b3:Bool} {pa pm pb pn:Option Addr} {na ca nm cm nb cb nn cn:Nat} {xa xm xb xn:List Nat} {w:World} (hxa:Sl w pa na ca xa) (hxm:Sl w pm nm cm xm) (hxb:Sl w pb nb cb xb) (hxn:Sl w pn nn cn xn) (h1:Tab w) (h2:Bases w) (z1:na + nm ≤ 2097152) (z2:nb + nn ≤ 2097152):Calls Tryz.prog 10 #[.agg #[.bool b0,.slice pa na ca,.bool b1,.slice pm nm cm],.agg #[.bool b2,.slice pb nb cb,.bool b3,.slice pn nn cn]] w (RetB w true):=Ret.bool (crtJoins_walk0 ⟨h1,h2⟩ ⟨xa,hxa,rfl,by omega⟩ ⟨xm,hxm,rfl,by omega⟩ ⟨xb,hxb,rfl,by omega⟩ ⟨xn,hxn,rfl,by omega⟩)
end Go.Proofs.YtjbcjlbbipohjaaGreatDoor
