/-
  Contracts and lemmas, joined in one text.
-/
import Derived.Test.YtnlnibngpeempaaGreatDoorOP
import Derived.Test.YtnlnibngpeempaaGreatDoorB5
import Derived.Test.YtnlnibngpeempaaGreatDoorH2
import Derived.Test.YtnlnibngpeempaaGreatDoorV3
import Derived.Test.YtnlnibngpeempaaGreatDoorV4
set_option linter.unusedVariables false
set_option linter.unusedSimpArgs false
/-
  The bounds of a table hold,plainly.
-/
set_option maxRecDepth 100000
set_option maxHeartbeats 16000000
namespace Go.Proofs.YtnlnibngpeempaaGreatDoor
open Go.RowKit
theorem sqN_dot (L:List Int):∀ m,((sqN L m:Nat):Int) = dot m (fun c => L.getD c 0) (fun c => L.getD c 0)
 | 0 => rfl
 | m + 1 => by
  rw [sqN,Int.natCast_add,sqN_dot L m,Int.natCast_mul,Int.natAbs_mul_self']; rfl
theorem hadP_prI {T:List (List Int)} {n:Nat} (hr:∀ i,i < n → (T.getD i []).length = n):∀ m,m ≤ n → ((hadP T m:Nat):Int) = prI m fun k => dot n (eT T k) (eT T k)
 | 0,_ => rfl
 | m + 1,h => by
  rw [hadP,Int.natCast_mul,hadP_prI hr m (by omega),hr m (by omega),sqN_dot]; rfl
theorem sq_le {a b:Nat} (h:a * a < (b + 1) * (b + 1)):a ≤ b:=Nat.le_of_not_lt fun h1 => by
  have:=Nat.mul_le_mul (show b + 1 ≤ a from h1) (show b + 1 ≤ a from h1)
  omega
theorem had_le {T:List (List Int)} {n:Nat} (hr:∀ i,i < n → (T.getD i []).length = n):(dt n (eT T)).natAbs ≤ hadN (hadP T n):=by
  have h1:=hadamard (n:=n) (eT T)
  rw [← hadP_prI hr n (Nat.le_refl _), ← Int.natAbs_mul_self' (dt n (eT T)), ← Int.natCast_mul] at h1
  have h1:(dt n (eT T)).natAbs * (dt n (eT T)).natAbs ≤ hadP T n:=Int.ofNat_le.1 h1
  have h2:=rt_spec (hadP T n)
  unfold hadN
  split
  · exact Nat.le_trans (sq_le (Nat.lt_of_le_of_lt h1 h2.2)) (Nat.le_succ _)
  exact sq_le (Nat.lt_of_le_of_lt (Nat.le_trans h1 (by omega)) (Nat.mul_lt_mul'' (Nat.lt_succ_self _) (Nat.lt_succ_self _)))
theorem facc_sN (L:List Int):∀ m,m ≤ L.length → facc absA 0 L m = ((sN m (fun c => (L.getD c 0).natAbs):Nat):Int)
 | 0,_ => rfl
 | m + 1,h => by
  have h1:L[m]? = some (L.getD m 0):=by simp [List.getD,List.getElem?_eq_getElem (show m < L.length from h)]
  rw [facc_succ h1,facc_sN L m (by omega)]; rfl
theorem rsums_ras {T:List (List Int)} {n:Nat} (hl:T.length = n) (hr:∀ i,i < n → (T.getD i []).length = n):∀ r,r < n → (rsums T).getD r 0 = ((ras n (eT T) r:Nat):Int):=fun r h => by
  obtain ⟨L,hL⟩:∃ L,T[r]? = some L:=⟨_,List.getElem?_eq_getElem (by omega)⟩
  have hn:=hr r h
  rw [getD_some hL] at hn
  unfold rsums
  rw [List.getD,List.getElem?_map,hL]
  show rsum L = _
  unfold rsum ras eT
  rw [facc_sN L _ (Nat.le_refl _),hn,getD_some hL]
theorem mxA_mem {l:List Int}:∀ {i k:Nat},k < i → ((l.getD k 0).natAbs:Int) ≤ mxA l i
 | i + 1,k,h => by
  rw [mxA]
  by_cases e:k = i
  ·subst e; split <;> omega
  have:=mxA_mem (l:=l) (i:=i) (k:=k) (by omega)
  split <;> omega
theorem coef_kept {T:List (List Int)} {n:Nat} {d:Nat → Int} {b:Nat → Nat → Nat → Int} (hl:T.length = n) (hr:∀ i,i < n → (T.getD i []).length = n) (h:Lev n (eT T) d b) {k:Nat} (hk:k ≤ n):((d (n - k)).natAbs:Int) ≤ (coefs T).getD k 0:=by
  rw [coefs_get,if_pos (by omega),hl]
  exact lev_coef h (rsums_ras hl hr) hk
theorem coef_bound (T:List (List Int)) {n k:Nat} (hk:k ≤ n):(coefs T).getD k 0 ≤ mxA (coefs T) (n + 1):=by
  have h1:=mxA_mem (l:=coefs T) (i:=n + 1) (k:=k) (by omega)
  have h2:=coefs_nn T k
  omega
theorem sN_pB1 {f g:Nat → Nat}:∀ {n:Nat},(∀ i,i < n → f i < 4294967296 ^ g i) → sN n f < 4294967296 ^ sN n g
 | 0,_ => Nat.lt_succ_self 0
 | n + 1,h => by
  have h1:=sN_pB1 (f:=f) (g:=g) (n:=n) fun i hi => h i (by omega)
  have h2:=h n (by omega)
  show sN n f + f n < 4294967296 ^ (sN n g + g n)
  rw [Nat.pow_add]
  obtain ⟨a,ha⟩:∃ a,4294967296 ^ sN n g = a:=⟨_,rfl⟩
  obtain ⟨b,hb⟩:∃ b,4294967296 ^ g n = b:=⟨_,rfl⟩
  rw [ha] at h1 ⊢
  rw [hb] at h2 ⊢
  have h3:(a - 1) * (b - 1) + (a - 1) + (b - 1) + 1 = a * b:=by
   obtain ⟨a',rfl⟩:∃ a',a = a' + 1:=⟨a - 1,by omega⟩
   obtain ⟨b',rfl⟩:∃ b',b = b' + 1:=⟨b - 1,by omega⟩
   simp only [Nat.add_sub_cancel,Nat.add_mul,Nat.mul_add,Nat.mul_one,Nat.one_mul]; omega
  have h4:0 ≤ (a - 1) * (b - 1):=Nat.zero_le _
  omega
def rowW (RT:List (List (Bool × List Nat))) (r:Nat):Nat:=sN (RT.getD r []).length fun c => ((RT.getD r []).getD c (false,[])).2.length
theorem ras_rowW {w:World} {p:Option Addr} {n:Nat} {RT:List (List (Bool × List Nat))} (h:TRw w p n RT 1048576) (hr:∀ i,i < n → ((tvr RT).getD i []).length = n):∀ r,r < n → ras n (eT (tvr RT)) r < 4294967296 ^ rowW RT r:=fun r hrn => by
  have hl:=h.1
  obtain ⟨L,hL⟩:∃ L,RT[r]? = some L:=⟨_,List.getElem?_eq_getElem (by omega)⟩
  obtain ⟨b,off,q,c,_,_,hz⟩:=h.2.2 r L hL
  have hT:(tvr RT)[r]? = some (L.map zvr):=by unfold tvr; rw [List.getElem?_map,hL]; rfl
  have hn:=hr r hrn
  rw [getD_some hT,List.length_map] at hn
  have hg:RT.getD r [] = L:=by rw [List.getD,hL]; rfl
  unfold rowW ras eT
  rw [getD_some hT,hg,hn]
  refine sN_pB1 fun i hi => ?_
  obtain ⟨e,he⟩:∃ e,L[i]? = some e:=⟨_,List.getElem?_eq_getElem (by omega)⟩
  obtain ⟨g,o2,q2,n2,k2,_,_,_,hs,_⟩:=hz.2.2 i e he
  have h1:(L.map zvr).getD i 0 = zvr e:=by rw [List.getD,List.getElem?_map,he]; rfl
  have h2:L.getD i (false,[]) = e:=by rw [List.getD,he]; rfl
  rw [h1,h2]
  unfold zvr zv
  have h3:=val_lt hs.lims
  split <;> omega
theorem sN_getD {α : Type} (g : α → Nat) (d : α):∀ (L:List α) ,sN L.length (fun c => g (L.getD c d)) = (L.map g).sum:=fun L => by
 have key:∀ m,m ≤ L.length → sN m (fun c => g (L.getD c d)) = ((L.take m).map g).sum:=fun m => by
  induction m with
  | zero => intro _; simp [sN]
  | succ m ih =>
   intro h
   have h1:L[m]? = some L[m]:=List.getElem?_eq_getElem h
   show sN m _ + g (L.getD m d) = _
   rw [ih (by omega),List.take_add_one,h1,List.getD,h1,List.map_append,List.sum_append_nat]; rfl
 rw [key _ (Nat.le_refl _),List.take_of_length_le (Nat.le_refl _)]
def tabW (RT:List (List (Bool × List Nat))):Nat:=(RT.map fun L => (L.map fun e => e.2.length).sum).sum
theorem rowW_sum {RT:List (List (Bool × List Nat))} {n:Nat} (hn:RT.length = n):sN n (rowW RT) = tabW RT:=by
 subst hn
 have h1:rowW RT = fun r => (fun L:List (Bool × List Nat) => (L.map fun e => e.2.length).sum) (RT.getD r []):=by
  funext r
  exact sN_getD (fun e:Bool × List Nat => e.2.length) (false,[]) (RT.getD r [])
 rw [h1]
 exact sN_getD (fun L:List (Bool × List Nat) => (L.map fun e => e.2.length).sum) [] RT
theorem tbl_self {T:List (List Int)} {n:Nat} (hl:T.length = n) (hr:∀ L ∈ T,L.length = n):T = tbl n n (eT T):=tbl_ext hl hr fun _ _ _ _ => rfl
open Go.RowKit
theorem Sep.ftake2 {w0 w:World} {R:List Res} {t:TypeId} {n c i j m:Nat} {p pi pj:Option Addr} {ci cj:Nat} {Li Lj:List Fq} {T:List Fw} (hS:Sep w0 (.lst t 1 p n c (ftE T) :: R) w) (hi:T[i]? = some ⟨pi,ci,Li⟩) (hj:T[j]? = some ⟨pj,cj,Lj⟩) (hne:i ≠ j) (h1:Li.length = m) (h2:Lj.length = m):Sep w0 (.lst 43 4 pi m ci (fqs Li) :: .lst 43 4 pj m cj (fqs Lj) :: .lst t 1 p n c (((ftE T).set i ⟨[.slice pi m ci],[]⟩).set j ⟨[.slice pj m cj],[]⟩) :: R) w:=by
  have hi':(ftE T)[i]? = some ⟨[.slice pi m ci],[.lst 43 4 pi m ci (fqs Li)]⟩:=by rw [ftE_get hi]; subst h1; rfl
  have hj':(ftE T)[j]? = some ⟨[.slice pj m cj],[.lst 43 4 pj m cj (fqs Lj)]⟩:=by rw [ftE_get hj]; subst h2; rfl
  have a:=hS.takeEl hi'
  have b:=Sep.takeEl (i:=j) (a.perm (List.Perm.swap _ _ _)) (by rw [List.getElem?_set_ne hne]; exact hj')
  exact b.perm ((List.Perm.cons _ (List.Perm.swap _ _ _)).trans (List.Perm.swap _ _ _))
theorem swap_ft {T:List Fw} {r c m:Nat} {a b:El} {U J:Fw} (hne:r ≠ c) (hu:U.L.length = m) (hj:J.L.length = m):((((ftE T).set r a).set c b).set r ⟨[.slice U.p U.L.length U.c],[.lst 43 4 U.p m U.c (fqs U.L)]⟩).set c ⟨[.slice J.p J.L.length J.c],[.lst 43 4 J.p m J.c (fqs J.L)]⟩ = ftE ((T.set r U).set c J):=by
  have e1:(⟨[.slice U.p U.L.length U.c],[.lst 43 4 U.p m U.c (fqs U.L)]⟩:El) = fwE U:=by rw [← hu]; rfl
  have e2:(⟨[.slice J.p J.L.length J.c],[.lst 43 4 J.p m J.c (fqs J.L)]⟩:El) = fwE J:=by rw [← hj]; rfl
  have s1:(((ftE T).set r a).set c b).set r (fwE U) = (((ftE T).set r a).set r (fwE U)).set c b:=List.set_comm _ _ (Ne.symm hne)
  rw [e1,e2,s1,List.set_set,List.set_set]
  unfold ftE
  rw [List.map_set,List.map_set]
theorem tab_start {n:Nat} {N:Nat → Nat → Int} {TT:List (List (Int × Int))} (h:TT = (tbl n n N).map fun L => L.map fun z => (z,1)):TT.length = n ∧ (∀ L ∈ TT,L.length = n) ∧ ∀ l m,l < n → m < n → eP TT l m = eqq N 0 l m:=by
 subst h
 refine ⟨by rw [List.length_map,tbl_len],fun L hL => ?_,fun l m hl hm => ?_⟩
 ·obtain ⟨L',h1,rfl⟩:=List.mem_map.1 hL
  rw [List.length_map]; exact tbl_row n n N L' h1
 rw [eqq_start]
 unfold eP
 simp [List.getD,tbl_at hl,List.getElem?_range hm]
theorem piv_ne {M:Nat → Nat → Int} {c a:Nat} {z y:Int} (h0:dt c M ≠ 0) (hv:(z,y) = eqq M c a c) (hz:z ≠ 0):mn M c a c ≠ 0:=fun h => hz (by
  have h1:=congrArg Prod.fst hv
  simp only at h1
  rw [h1]; exact (RN_zero h0).2 h)
theorem eq_den {M:Nat → Nat → Int} {c i j:Nat} {z y:Int} (h0:dt c M ≠ 0) (hv:(z,y) = eqq M c i j):y ≠ 0:=by
  have h1:=congrArg Prod.snd hv
  simp only at h1
  rw [h1]; exact Int.ne_of_gt (RD_pos h0)
theorem d_step {M:Nat → Nat → Int} {c:Nat} {s dv z y:Int} (h0:dt c M ≠ 0) (hd:dv = s * dt c M) (hv:(z,y) = eqq M c c c):RN (dv * z) (1 * y) = s * dt (c + 1) M ∧ RD (dv * z) (1 * y) = 1:=by
  have hy:=eq_den h0 hv
  have h1:=congrArg Prod.fst hv
  have h2:=congrArg Prod.snd hv
  simp only at h1 h2
  have h3:=R_cross (mn M c c c) (dt c M)
  have h4:RN (mn M c c c) (dt c M) = z:=h1.symm
  have h5:RD (mn M c c c) (dt c M) = y:=h2.symm
  rw [h4,h5,mn_lead] at h3
  obtain ⟨e1,e2⟩:=R_same (x:=dv * z) (y:=1 * y) (x':=s * dt (c + 1) M) (y':=1) (by omega) (by decide) (by rw [hd]; grind)
  rw [e1,e2,RN_one,RD_one]; exact ⟨rfl,rfl⟩
def fF (M:Nat → Nat → Int) (TT:List (List (Int × Int))) (c:Nat):Nat → Nat → Int × Int:=fun l m => if l ≤ c ∨ m < c then eP TT l m else eq2 M c l m
theorem filp_init {M:Nat → Nat → Int} {TT:List (List (Int × Int))} {n c:Nat} (h1:TT.length = n) (h2:∀ L ∈ TT,L.length = n):FilP TT n n (c + 1) 0 (fF M TT c) (eP TT):=by
  refine ⟨h1,h2,fun l m _ _ => ?_⟩
  by_cases e:l < c + 1 ∨ (l = c + 1 ∧ m < 0)
  · rw [if_pos e]; unfold fF; rw [if_pos (by omega)]
  rw [if_neg e]
theorem filp_cols {M:Nat → Nat → Int} {TT V:List (List (Int × Int))} {n c l:Nat} (h:FilP V n n l 0 (fF M TT c) (eP TT)):FilP V n n l c (fF M TT c) (eP TT):=by
 refine ⟨h.len,h.row,fun k m hk hm => ?_⟩
 rw [h.ent k m hk hm]
 by_cases e:k < l ∨ (k = l ∧ m < 0)
 ·rw [if_pos e,if_pos (by omega)]
 rw [if_neg e]
 by_cases e2:k < l ∨ (k = l ∧ m < c)
 ·rw [if_pos e2]; unfold fF; rw [if_pos (by omega)]
 rw [if_neg e2]
theorem FilP.at {V:List (List (Int × Int))} {n c i j:Nat} {f g:Nat → Nat → Int × Int} (h:FilP V n c i 0 f g) (e:i = j):FilP V n c j 0 f g:=e ▸ h
theorem filp_piv {M:Nat → Nat → Int} {TT V:List (List (Int × Int))} {n c l k m:Nat} (h:FilP V n n l k (fF M TT c) (eP TT)) (hl:c < l) (hc:c < n) (hm:m < n):eP V c m = eP TT c m:=by
  rw [h.ent c m hc hm,if_pos (by omega)]; unfold fF; rw [if_pos (by omega)]
theorem fr_unit {z y x d:Int} (h1:RN x d = z) (h2:RD x d = y):z * d = x * y:=by rw [← h1, ← h2]; exact R_cross x d
theorem quo_step {M:Nat → Nat → Int} {c l:Nat} {zx yx zy yy:Int} (h0:dt c M ≠ 0) (hx:(zx,yx) = eqq M c l c) (hy:(zy,yy) = eqq M c c c) (hz:zy ≠ 0) (hp:mn M c c c ≠ 0):RN (zx * yy) (yx * zy) = RN (mn M c l c) (mn M c c c) ∧ RD (zx * yy) (yx * zy) = RD (mn M c l c) (mn M c c c):=by
  have a1:=fr_unit (congrArg Prod.fst hx).symm (congrArg Prod.snd hx).symm
  have a2:=fr_unit (congrArg Prod.fst hy).symm (congrArg Prod.snd hy).symm
  simp only at a1 a2
  refine R_same (fun h => (Int.mul_eq_zero.1 h).elim (eq_den h0 hx) hz) hp (Int.eq_of_mul_eq_mul_left h0 ?_)
  grind
theorem frs_step {M:Nat → Nat → Int} {c l m:Nat} {F G P Q za ya zb yb:Int} (h0:dt c M ≠ 0) (hp:mn M c c c ≠ 0) (hF:RN (mn M c l c) (mn M c c c) = F) (hG:RD (mn M c l c) (mn M c c c) = G) (ha:(za,ya) = eqq M c l m) (hb:(zb,yb) = eqq M c c m) (hP:RN (F * zb) (G * yb) = P) (hQ:RD (F * zb) (G * yb) = Q) :
  (RN (za * Q - P * ya) (ya * Q),RD (za * Q - P * ya) (ya * Q)) = eq2 M c l m:=by
 have a0:=fr_unit hF hG
 have a1:=fr_unit (congrArg Prod.fst ha).symm (congrArg Prod.snd ha).symm
 have a2:=fr_unit (congrArg Prod.fst hb).symm (congrArg Prod.snd hb).symm
 simp only at a1 a2
 have hG0:G ≠ 0:=by rw [← hG]; exact Int.ne_of_gt (RD_pos hp)
 have hyb:=eq_den h0 hb
 have hya:=eq_den h0 ha
 have hGy:G * yb ≠ 0:=fun h => (Int.mul_eq_zero.1 h).elim hG0 hyb
 have hQ0:Q ≠ 0:=by rw [← hQ]; exact Int.ne_of_gt (RD_pos hGy)
 obtain ⟨e1,e2⟩:=R_same (x:=F * zb) (y:=G * yb) (x':=mn M c l c * mn M c c m) (y':=mn M c c c * dt c M) hGy (fun h => (Int.mul_eq_zero.1 h).elim hp h0) (by grind)
 have a3:=fr_unit (e1.symm.trans hP) (e2.symm.trans hQ)
 obtain ⟨e3,e4⟩:=R_same (x:=za * Q - P * ya) (y:=ya * Q) (x':=mn M c c c * mn M c l m - mn M c l c * mn M c c m) (y':=dt c M * mn M c c c) (fun h => (Int.mul_eq_zero.1 h).elim hya hQ0) (fun h => (Int.mul_eq_zero.1 h).elim h0 hp) (by grind)
 unfold eq2; rw [e3,e4]
theorem DS.wdv {n c S:Nat} {N M:Nat → Nat → Int} {V:Nat → Nat} {s:Int} (h:DS n N M V S c s) (hS:S ≤ 1048700) (hc:c ≤ n):Wd (s * dt c M) 1048704:=by
  have h1:=h.wld hS hc
  unfold Wd at *
  rcases h.sgn with e | e
  · rw [e,Int.one_mul]; exact h1
  rw [e,Int.neg_mul,Int.one_mul,Int.natAbs_neg]; exact h1
theorem tab_swap {n c a:Nat} {M:Nat → Nat → Int} {T:List Fw} {U J:Fw} (hl:(ftv T).length = n) (hr:∀ L ∈ ftv T,L.length = n) (hE:∀ l m,c ≤ l → l < n → c ≤ m → m < n → eP (ftv T) l m = eqq M c l m) (hU:T[c]? = some U) (hJ:T[a]? = some J) (hca:c < a) (han:a < n):(ftv ((T.set a U).set c J)).length = n ∧ (∀ L ∈ ftv ((T.set a U).set c J),L.length = n) ∧ ∀ l m,c ≤ l → l < n → c ≤ m → m < n → eP (ftv ((T.set a U).set c J)) l m = eqq (swM M c a) c l m:=by
 have hT:T.length = n:=by rw [← ftv_len]; exact hl
 have hUl:fqv U.L ∈ ftv T:=List.mem_of_getElem? (ftv_get hU)
 have hJl:fqv J.L ∈ ftv T:=List.mem_of_getElem? (ftv_get hJ)
 have e1:ftv ((T.set a U).set c J) = ((ftv T).set a (fqv U.L)).set c (fqv J.L):=by rw [ftv_set,ftv_set]
 rw [e1]
 refine ⟨by rw [List.length_set,List.length_set]; exact hl,fun L hL => ?_,fun l m h1 h2 h3 h4 => ?_⟩
 ·rcases List.mem_or_eq_of_mem_set hL with h | h
  ·rcases List.mem_or_eq_of_mem_set h with h | h
   ·exact hr L h
   rw [h]; exact hr _ hUl
  rw [h]; exact hr _ hJl
 rw [eqq_swap (by omega), ← hE (tr c a l) m (by unfold tr; split <;> (try split) <;> omega) (tr_lt (by omega) han h2) h3 h4]
 unfold eP
 congr 1
 unfold tr
 by_cases e:l = c
 ·subst e
  rw [if_pos rfl,List.getD,List.getElem?_set_self (by rw [List.length_set]; omega),List.getD,ftv_get hJ]
 rw [if_neg e]
 by_cases e2:l = a
 ·subst e2
  rw [if_pos rfl,List.getD,List.getElem?_set_ne (fun h => e h.symm),List.getElem?_set_self (by omega),List.getD,ftv_get hU]
 rw [if_neg e2,List.getD,List.getElem?_set_ne (fun h => e h.symm),List.getElem?_set_ne (fun h => e2 h.symm)]; rfl
theorem RL.mono2 {w:World} {p:Option Addr} {m K K2:Nat} {L:List RawR} (h:RL w p m L K) (hK:K ≤ K2):RL w p m L K2:=by
  refine ⟨h.1,h.2.1,fun i e he => ?_⟩
  obtain ⟨g,off,q,n,k,q2,n2,k2,h1,h2,h3,h4,h5,h6⟩:=h.2.2 i e he
  exact ⟨g,off,q,n,k,q2,n2,k2,h1,h2,h3,h4,by omega,by omega⟩
theorem wdet_m {k0_ k1_ k2_ k3_ k4_ k5_ k6_ k7_ k8_ k9_ k10_ k11_ k12_ k13_ k14_ k15_ k16_ k17_ k18_ cB:Code} (hc:(Tryz.f15).body = some (.seq k18_ (.seq k17_ (.seq k16_ (.seq k15_ (.seq (.seq k13_ (.block 2 (.loop (.seq k12_ (.seq k11_ (.seq (.block 3 (.seq k9_ (.seq k8_ (.seq k7_ (.seq k6_ (.seq k5_ (.seq k4_ (.seq k3_ (.block 6 (.loop (.seq k2_ (.seq (.block 7 (.seq k0_ cB)) k1_)))))))))))) k10_)))))) k14_)))))) {g1:Nat} {pX:Option Addr} {n:Nat} {cX:Nat} {g5:Nat} {c:Nat} {l:Nat} {g19:Nat} {z6:Int} {p6:Option Addr} {n6:Nat} {c6:Nat} {z7:Int} {p7:Option Addr} {n7:Nat} {c7:Nat} {p4:Option Addr} {n4:Nat} {c4:Nat} {z4:Int} {p5:Option Addr} {n5:Nat} {c5:Nat} {T3:List Fw} {N:Nat → Nat → Int} {M2:Nat → Nat → Int} {V2:Nat → Nat} {S0:Nat} {s2:Int} {T2:List Fw} {f9:Nat → Value} {w w21:World} (hDS2:DS n N M2 V2 S0 c s2) (hS2:S0 ≤ 1048700) (hn:n ≤ 1000) (hlc:c < n) (hTlen2:(ftv T2).length = n) (hTrow2:∀ L ∈ ftv T2,L.length = n) (hE2:∀ l m,c ≤ l → l < n → c ≤ m → m < n → eP (ftv T2) l m = eqq M2 c l m) (hpiv:mn M2 c c c ≠ 0) (hl1:c + 1 ≤ l) (hll:l < n) (hF:FilP (ftv T3) n n l 0 (fF M2 (ftv T2) c) (eP (ftv T2))) (hF6:RN (mn M2 c l c) (mn M2 c c c) = z6) (hG7:RD (mn M2 c l c) (mn M2 c c c) = z7) (hk6:Wd z6 2097408) (hk7:Wd z7 2097408) (hS:Sep w [.blk g19 [.bool (ng z6),.slice p6 n6 c6,.bool (ng z7),.slice p7 n7 c7] 43,.rowm p6 n6 c6 (lim z6.natAbs),.rowm p7 n7 c7 (lim z7.natAbs),.rowm p4 n4 c4 (lim z4.natAbs),.rowm p5 n5 c5 (lim (1:Int).natAbs),.blk g5 [.bool (ng z4),.slice p4 n4 c4,.bool (ng 1),.slice p5 n5 c5] 43,.blk g1 [.bool false,.slice none 0 0,.bool false,.slice none 0 0] 43,.lst 39 1 pX n cX (ftE T3)] w21) (hf:AllAt f9 [(2,.pointer (some ⟨g1,0,none⟩)),(3,.slice pX n cX),(6,.pointer (some ⟨g5,0,none⟩)),(7,.int .i64 (((c:Nat):Int))),(9,.int .i64 (((l:Nat):Int))),(10,.pointer (some ⟨g19,0,none⟩)),(26,.int .i64 (((n:Nat):Int))),(27,.int .i64 (((c:Nat):Int)))]) {Q:Exit → Act → World → Prop} (hQp:∀ (d:Option Tmp) v c a w,Q (.panic c) (a.put d v) w → Q (.panic c) a w) (hQ:∀ a9 w',(∃ (fb:Nat → Value) (T4:List Fw),a9 = act 136 (sets fb [(2,.pointer (some ⟨g1,0,none⟩)),(3,.slice pX n cX),(6,.pointer (some ⟨g5,0,none⟩)),(7,.int .i64 (((c:Nat):Int))),(9,.int .i64 (((l:Nat):Int))),(26,.int .i64 (((n:Nat):Int))),(27,.int .i64 (((c:Nat):Int)))]) ∧ Sep w [.blk g19 [.bool (ng z6),.slice p6 n6 c6,.bool (ng z7),.slice p7 n7 c7] 43,.rowm p6 n6 c6 (lim z6.natAbs),.rowm p7 n7 c7 (lim z7.natAbs),.rowm p4 n4 c4 (lim z4.natAbs),.rowm p5 n5 c5 (lim (1:Int).natAbs),.blk g5 [.bool (ng z4),.slice p4 n4 c4,.bool (ng 1),.slice p5 n5 c5] 43,.blk g1 [.bool false,.slice none 0 0,.bool false,.slice none 0 0] 43,.lst 39 1 pX n cX (ftE T4)] w' ∧ (FilP (ftv T4) n n (l + 1) 0 (fF M2 (ftv T2) c) (eP (ftv T2)))) → Q .normal a9 w') :
  CW Tryz.prog cB Q (act 136 f9) w21:=by
 obtain rfl:=(Code.seq.inj (Code.block.inj (Code.seq.inj (Code.seq.inj (Code.loop.inj (Code.block.inj (Code.seq.inj (Code.seq.inj (Code.seq.inj (Code.seq.inj (Code.seq.inj (Code.seq.inj (Code.seq.inj (Code.block.inj (Code.seq.inj (Code.seq.inj (Code.seq.inj (Code.loop.inj (Code.block.inj (Code.seq.inj (Code.seq.inj (Code.seq.inj (Code.seq.inj (Code.seq.inj (Code.seq.inj (Option.some.inj hc)).2).2).2).2).1).2).2)).2).2).1).2).2).2).2).2).2).2).2).2)).2).1).2).2
 clear hc
 rw [aSs hf]
 refine wsr (wmv rfl rfl ?_)
 refine wav rfl rfl ?_
 refine wn1 (wBk ?_)
 refine wLp (σ := Nat) (fun m a9 w' => ∃ (fb:Nat → Value) (T4:List Fw),a9 = act 136 (sets fb [(2,.pointer (some ⟨g1,0,none⟩)),(3,.slice pX n cX),(6,.pointer (some ⟨g5,0,none⟩)),(7,.int .i64 (c:Int)),(9,.int .i64 (l:Int)),(10,.pointer (some ⟨g19,0,none⟩)),(11,.int .i64 (m:Int)),(26,.int .i64 (n:Int)),(27,.int .i64 (c:Int))]) ∧ Sep w [.blk g19 [.bool (ng z6),.slice p6 n6 c6,.bool (ng z7),.slice p7 n7 c7] 43,.rowm p6 n6 c6 (lim z6.natAbs),.rowm p7 n7 c7 (lim z7.natAbs),.rowm p4 n4 c4 (lim z4.natAbs),.rowm p5 n5 c5 (lim (1:Int).natAbs),.blk g5 [.bool (ng z4),.slice p4 n4 c4,.bool (ng 1),.slice p5 n5 c5] 43,.blk g1 [.bool false,.slice none 0 0,.bool false,.slice none 0 0] 43,.lst 39 1 pX n cX (ftE T4)] w' ∧ (c ≤ m) ∧ (m ≤ n) ∧ (FilP (ftv T4) n n l m (fF M2 (ftv T2) c) (eP (ftv T2)))) (fun m => n - m) (c) ⟨_,T3,aSs ⟨rfl,rfl,rfl,rfl,rfl,rfl,rfl,rfl,rfl,trivial⟩,hS,Nat.le_refl _,by omega,filp_cols hF⟩ ?_
 clear hS; rintro m _ w22 ⟨fb,T4,rfl,hS,hm1,hm2,hG⟩
 refine wSq (wSq ?_)
 by_cases hlm:m < n
 ·
  have hT4n:T4.length = n:=by rw [← ftv_len]; exact hG.len
  refine wreg (wmv rfl rfl ?_)
  refine wmv rfl rfl ?_
  refine wl rfl (olen rfl rfl rfl Tryz.runUnderlying47 (p:=pX) (k:=n) (m:=cX) (ev rfl rfl) ?_)
  refine wbt rfl rfl rfl rfl (bLs (decide_eq_true (by omega))) ?_
  refine wn1 ?_
  refine wT (ev rfl rfl) ?_
  refine wSk (tNo (wSq (wBk ?_)))
  obtain ⟨gt23,hgt23⟩:=hS.lstPtr 7 rfl (by omega)
  obtain ⟨⟨prc,crc,Lrc⟩,hTrc⟩:∃ r,(T4)[l]? = some r:=⟨_,List.getElem?_eq_getElem (by omega)⟩
  have hlrc:Lrc.length = n:=fq_len rfl hG.row hTrc
  obtain ⟨grc,hgrc⟩:=hS.frp 7 rfl hTrc (by omega)
  obtain ⟨gt24,hgt24⟩:=hS.lstPtr 7 rfl (by omega)
  obtain ⟨⟨prd,crd,Lrd⟩,hTrd⟩:∃ r,(T4)[c]? = some r:=⟨_,List.getElem?_eq_getElem (by omega)⟩
  have hlrd:Lrd.length = n:=fq_len rfl hG.row hTrd
  obtain ⟨grd,hgrd⟩:=hS.frp 7 rfl hTrd (by omega)
  have hW9:=hDS2.wen (i:=l) (j:=m) hS2 (by omega) (by omega) (by omega) (by omega)
  obtain ⟨⟨pec,nec,cec,qec,mec,dec,zec,yec⟩,hLec⟩:∃ e,Lrc[m]? = some e:=⟨_,List.getElem?_eq_getElem (by omega)⟩
  have hvec:=(fq_el rfl hTrc hLec).trans ((hG.el (by omega) (by omega) (Nat.le_refl _)).trans (hE2 l m (by omega) (by omega) (by omega) (by omega)))
  have hwzec:Wd zec 1048704:=by have h9:=congrArg Prod.fst hvec; simp only at h9; rw [h9]; exact hW9.1
  have hwyec:Wd yec 1048704:=by have h9:=congrArg Prod.snd hvec; simp only at h9; rw [h9]; exact hW9.2
  have hW9:=hDS2.wen (i:=c) (j:=m) hS2 (Nat.le_refl _) (by omega) (by omega) (by omega)
  obtain ⟨⟨ped,ned,ced,qed,med,ded,zed,yed⟩,hLed⟩:∃ e,Lrd[m]? = some e:=⟨_,List.getElem?_eq_getElem (by omega)⟩
  have hved:=(fq_el rfl hTrd hLed).trans ((filp_piv hG (by omega) (by omega) (by omega)).trans (hE2 c m (by omega) (by omega) (by omega) (by omega)))
  have hwzed:Wd zed 1048704:=by have h9:=congrArg Prod.fst hved; simp only at h9; rw [h9]; exact hW9.1
  have hwyed:Wd yed 1048704:=by have h9:=congrArg Prod.snd hved; simp only at h9; rw [h9]; exact hW9.2
  obtain ⟨z8,hz8⟩:∃ z:Int,Hid (RN (z6 * zed) (z7 * yed) = z):=⟨_,rfl⟩
  have hk8:Wd z8 3146112:=Wd.rn (Wd.mul (m:=3146112) hk6 hwzed rfl (by omega)) hz8
  obtain ⟨z9,hz9⟩:∃ z:Int,Hid (RD (z6 * zed) (z7 * yed) = z):=⟨_,rfl⟩
  have hk9:Wd z9 3146112:=Wd.rd (Wd.mul (m:=3146112) hk7 hwyed rfl (by omega)) hz9
  obtain ⟨z10,hz10⟩:∃ z:Int,Hid (RN (zec * z9 - z8 * yec) (yec * z9) = z):=⟨_,rfl⟩
  have hk10:Wd z10 4194817:=Wd.rn (Wd.sub (m:=4194817) (Wd.mul (m:=4194816) hwzec hk9 rfl (by omega)) (Wd.mul (m:=4194816) hk8 hwyec rfl (by omega)) rfl (by omega)) hz10
  obtain ⟨z11,hz11⟩:∃ z:Int,Hid (RD (zec * z9 - z8 * yec) (yec * z9) = z):=⟨_,rfl⟩
  have hk11:Wd z11 4194816:=Wd.rd (Wd.mul (m:=4194816) hwyec hk9 rfl (by omega)) hz11
  refine wSg 23 [111,112,113,114,115,116,117,118,119,120,121,122,123,124,125,126,127,128,129,130,131,132,133] [[],[],[0,1],[2,0,1],[],[],[],[5,6],[7,5,6],[],[8,9,5,6,7],[10,5,6,7,8,9],[],[],[],[13,14],[15,13,14],[],[16,17,13,14,15],[18,13,14,15,16,17],[12,19,13,14,15,16,17,18],[11,20,5,6,7,8,9,10,12,13,14,15,16,17,18,19],[3,4,0,1,2,5,6,7,8,9,10,11,12,13,14,15,16,17,18,19,20,21]] [] [] [] (fun i9 => ([iSv (.slice pX n cX),iSv (.int .i64 (l:Int)),iSv (.pointer (some ⟨gt24,(0 + l * 1),none⟩)),iSv (.slice prc Lrc.length crc),iSv (.int .i64 (m:Int)),iSv (.slice pX n cX),iSv (.int .i64 (l:Int)),iSv (.pointer (some ⟨gt24,(0 + l * 1),none⟩)),iSv (.slice prc Lrc.length crc),iSv (.int .i64 (m:Int)),iSv (.pointer (some ⟨grc,(0 + m * 4),none⟩)),iSv (.agg #[.bool (ng zec),.slice pec nec cec,.bool (ng yec),.slice qec mec dec]),iSv (.agg #[.bool (ng z6),.slice p6 n6 c6,.bool (ng z7),.slice p7 n7 c7]),iSv (.slice pX n cX),iSv (.int .i64 (c:Int)),iSv (.pointer (some ⟨gt24,(0 + c * 1),none⟩)),iSv (.slice prd Lrd.length crd),iSv (.int .i64 (m:Int)),iSv (.pointer (some ⟨grd,(0 + m * 4),none⟩)),iSv (.agg #[.bool (ng zed),.slice ped ned ced,.bool (ng yed),.slice qed med ded]),fun _ => Rrt z8 z9,fun _ => Rrt z10 z11,iSv (.pointer (some ⟨grc,(0 + m * 4),none⟩))]:List (List Value → Tell)).getD i9 (fun _ _ _ => False)) hNi (fun d v c a w h => hQp d v c a w h) (by kernel_rfl) (by kernel_rfl) (by kernel_rfl) hS ?_ ?_
  ·
   refine stM rfl rfl rfl rfl rfl (fun _=>isI) ?_
   refine stM rfl rfl rfl rfl rfl (fun _=>isI) ?_
   refine stT rfl (fun hT hS=>?_) ?_
   ·obtain ⟨hv0,hr0⟩:=hT 0 111 rfl rfl
    obtain ⟨hv1,hr1⟩:=hT 1 112 rfl rfl
    obtain hS:=hS.flat2 hr0 hr1
    exact inNo rfl (oIx (p:=pX) (g:=gt24) (off:=0) (m:=n) (k:=l) (j:=(0 + l * 1)) rfl rfl Tryz.runUnderlying47 Tryz.sizeOf39 (ev rfl hv0) hgt24 (ev rfl hv1) (by omega) rfl (nSm rfl isI))
   refine stT rfl (fun hT hS=>?_) ?_
   ·obtain ⟨hv2,hr2⟩:=hT 2 113 rfl rfl
    obtain hS:=hS.flat1 hr2
    exact inNo rfl (oLc ⟨Tryz.isAgg39,Tryz.sizeOf39⟩ rfl rfl (ev rfl hv2) (hS.frc 7 rfl hTrc hgt24) (nSm rfl isI))
   refine stM rfl rfl rfl rfl rfl (fun _=>isI) ?_
   refine stM rfl rfl rfl rfl rfl (fun _=>isI) ?_
   refine stM rfl rfl rfl rfl rfl (fun _=>isI) ?_
   refine stT rfl (fun hT hS=>?_) ?_
   ·obtain ⟨hv5,hr5⟩:=hT 5 116 rfl rfl
    obtain ⟨hv6,hr6⟩:=hT 6 117 rfl rfl
    obtain hS:=hS.flat2 hr5 hr6
    exact inNo rfl (oIx (p:=pX) (g:=gt24) (off:=0) (m:=n) (k:=l) (j:=(0 + l * 1)) rfl rfl Tryz.runUnderlying47 Tryz.sizeOf39 (ev rfl hv5) hgt24 (ev rfl hv6) (by omega) rfl (nSm rfl isI))
   refine stT rfl (fun hT hS=>?_) ?_
   ·obtain ⟨hv7,hr7⟩:=hT 7 118 rfl rfl
    obtain hS:=hS.flat1 hr7
    exact inNo rfl (oLc ⟨Tryz.isAgg39,Tryz.sizeOf39⟩ rfl rfl (ev rfl hv7) (hS.frc 7 rfl hTrc hgt24) (nSm rfl isI))
   refine stM rfl rfl rfl rfl rfl (fun _=>isI) ?_
   refine stT rfl (fun hT hS=>?_) ?_
   ·obtain ⟨hv8,hr8⟩:=hT 8 119 rfl rfl
    obtain ⟨hv9,hr9⟩:=hT 9 120 rfl rfl
    obtain hS:=hS.flat2 hr8 hr9
    exact inNo rfl (oIx (p:=prc) (g:=grc) (off:=0) (m:=Lrc.length) (k:=m) (j:=(0 + m * 4)) rfl rfl Tryz.runUnderlying39 Tryz.sizeOf43 (ev rfl hv8) hgrc (ev rfl hv9) (by omega) rfl (nSm rfl isI))
   refine stT rfl (fun hT hS=>?_) ?_
   ·obtain ⟨hv10,hr10⟩:=hT 10 121 rfl rfl
    obtain hS:=hS.flat1 hr10
    exact inNo rfl (oloadA aggR rfl rfl (ev rfl hv10) (hS.fec 7 rfl hTrc hLec hgrc) rfl (nSm rfl isI))
   refine stH rfl (fun ho hS=>?_) ?_
   ·exact inNo rfl (oLd aggR hS 0 rfl rfl (ev rfl (ho 10 rfl)) rfl rfl rfl (nSm rfl isI))
   refine stM rfl rfl rfl rfl rfl (fun _=>isI) ?_
   refine stM rfl rfl rfl rfl rfl (fun _=>isI) ?_
   refine stT rfl (fun hT hS=>?_) ?_
   ·obtain ⟨hv13,hr13⟩:=hT 13 124 rfl rfl
    obtain ⟨hv14,hr14⟩:=hT 14 125 rfl rfl
    obtain hS:=hS.flat2 hr13 hr14
    exact inNo rfl (oIx (p:=pX) (g:=gt24) (off:=0) (m:=n) (k:=c) (j:=(0 + c * 1)) rfl rfl Tryz.runUnderlying47 Tryz.sizeOf39 (ev rfl hv13) hgt24 (ev rfl hv14) (by omega) rfl (nSm rfl isI))
   refine stT rfl (fun hT hS=>?_) ?_
   ·obtain ⟨hv15,hr15⟩:=hT 15 126 rfl rfl
    obtain hS:=hS.flat1 hr15
    exact inNo rfl (oLc ⟨Tryz.isAgg39,Tryz.sizeOf39⟩ rfl rfl (ev rfl hv15) (hS.frc 7 rfl hTrd hgt24) (nSm rfl isI))
   refine stM rfl rfl rfl rfl rfl (fun _=>isI) ?_
   refine stT rfl (fun hT hS=>?_) ?_
   ·obtain ⟨hv16,hr16⟩:=hT 16 127 rfl rfl
    obtain ⟨hv17,hr17⟩:=hT 17 128 rfl rfl
    obtain hS:=hS.flat2 hr16 hr17
    exact inNo rfl (oIx (p:=prd) (g:=grd) (off:=0) (m:=Lrd.length) (k:=m) (j:=(0 + m * 4)) rfl rfl Tryz.runUnderlying39 Tryz.sizeOf43 (ev rfl hv16) hgrd (ev rfl hv17) (by omega) rfl (nSm rfl isI))
   refine stT rfl (fun hT hS=>?_) ?_
   ·obtain ⟨hv18,hr18⟩:=hT 18 129 rfl rfl
    obtain hS:=hS.flat1 hr18
    exact inNo rfl (oloadA aggR rfl rfl (ev rfl hv18) (hS.fec 7 rfl hTrd hLed hgrd) rfl (nSm rfl isI))
   refine stT rfl (fun hT hS=>?_) ?_
   ·obtain ⟨hv12,hr12⟩:=hT 12 123 rfl rfl
    obtain ⟨hv19,hr19⟩:=hT 19 130 rfl rfl
    obtain hS:=hS.flat2 hr12 hr19
    exact .inl ⟨wNo rfl,oCl rfl rfl Tryz.call51 rfl (wsmul (((hS.slm 1 rfl).zr hk6).mono (by omega)) (((hS.slm 2 rfl).zr hk7).mono (by omega)) ((hS.fez 7 rfl hTrd hLed hwzed).mono (by omega)) ((hS.fed 7 rfl hTrd hLed hwyed).mono (by omega)) ((by rw [← hG7]; exact Int.ne_of_gt (RD_pos hpiv))) (eq_den hDS2.lead hved) hz8 hz9) (ar2 (ev rfl hv12) (ev rfl hv19)) cNw⟩
   refine stT rfl (fun hT hS=>?_) ?_
   ·obtain ⟨hv11,hr11⟩:=hT 11 122 rfl rfl
    obtain ⟨p8,n8,c8,p9,n9,c9,hv20,hr20⟩:=(hT 20 131 rfl rfl:(Rrt z8 z9) _ _)
    obtain hS:=hS.flat2 hr11 hr20
    exact .inl ⟨wNo rfl,oCl rfl rfl Tryz.call53 rfl (wssub ((hS.fez 7 rfl hTrc hLec hwzec).mono (by omega)) ((hS.fed 7 rfl hTrc hLec hwyec).mono (by omega)) (((hS.slm 8 rfl).zr hk8).mono (by omega)) (((hS.slm 9 rfl).zr hk9).mono (by omega)) (eq_den hDS2.lead hvec) (by rw [← hz9.out]; exact Int.ne_of_gt (RD_pos fun h => (Int.mul_eq_zero.1 h).elim (by rw [← hG7]; exact Int.ne_of_gt (RD_pos hpiv)) (eq_den hDS2.lead hved))) hz10 hz11) (ar2 (ev rfl hv11) (ev rfl hv20)) cNw⟩
   refine stT rfl (fun hT hS=>?_) ?_
   ·obtain ⟨hv3,hr3⟩:=hT 3 114 rfl rfl
    obtain ⟨hv4,hr4⟩:=hT 4 115 rfl rfl
    obtain hS:=hS.flat2 hr3 hr4
    exact inNo rfl (oIx (p:=prc) (g:=grc) (off:=0) (m:=Lrc.length) (k:=m) (j:=(0 + m * 4)) rfl rfl Tryz.runUnderlying39 Tryz.sizeOf43 (ev rfl hv3) hgrc (ev rfl hv4) (by omega) rfl (nSm rfl isI))
   exact sNi
  intro vs ρ w25 f' hf hT hS
  obtain ⟨hv0,hr0⟩:=hT 0 (by decide)
  obtain ⟨hv1,hr1⟩:=hT 1 (by decide)
  obtain ⟨hv2,hr2⟩:=hT 2 (by decide)
  obtain ⟨hv3,hr3⟩:=hT 3 (by decide)
  obtain ⟨hv4,hr4⟩:=hT 4 (by decide)
  obtain ⟨hv5,hr5⟩:=hT 5 (by decide)
  obtain ⟨hv6,hr6⟩:=hT 6 (by decide)
  obtain ⟨hv7,hr7⟩:=hT 7 (by decide)
  obtain ⟨hv8,hr8⟩:=hT 8 (by decide)
  obtain ⟨hv9,hr9⟩:=hT 9 (by decide)
  obtain ⟨hv10,hr10⟩:=hT 10 (by decide)
  obtain ⟨hv11,hr11⟩:=hT 11 (by decide)
  obtain ⟨hv12,hr12⟩:=hT 12 (by decide)
  obtain ⟨hv13,hr13⟩:=hT 13 (by decide)
  obtain ⟨hv14,hr14⟩:=hT 14 (by decide)
  obtain ⟨hv15,hr15⟩:=hT 15 (by decide)
  obtain ⟨hv16,hr16⟩:=hT 16 (by decide)
  obtain ⟨hv17,hr17⟩:=hT 17 (by decide)
  obtain ⟨hv18,hr18⟩:=hT 18 (by decide)
  obtain ⟨hv19,hr19⟩:=hT 19 (by decide)
  obtain ⟨p8,n8,c8,p9,n9,c9,hv20,hr20⟩:=(hT 20 (by decide):(Rrt z8 z9) _ _)
  obtain ⟨p10,n10,c10,p11,n11,c11,hv21,hr21⟩:=(hT 21 (by decide):(Rrt z10 z11) _ _)
  obtain ⟨hv22,hr22⟩:=hT 22 (by decide)
  simp only [pool,if_true,hr0,hr1,hr2,hr3,hr4,hr5,hr6,hr7,hr8,hr9,hr10,hr11,hr12,hr13,hr14,hr15,hr16,hr17,hr18,hr19,hr20,hr21,hr22,List.nil_append,List.cons_append,List.append_nil] at hS
  simp only [layf,hv0,hv1,hv2,hv3,hv4,hv5,hv6,hv7,hv8,hv9,hv10,hv11,hv12,hv13,hv14,hv15,hv16,hv17,hv18,hv19,hv20,hv21,hv22] at hf
  subst hf; clear hT hv0 hv1 hv2 hv3 hv4 hv5 hv6 hv7 hv8 hv9 hv10 hv11 hv12 hv13 hv14 hv15 hv16 hv17 hv18 hv19 hv20 hv21 hv22 hr0 hr1 hr2 hr3 hr4 hr5 hr6 hr7 hr8 hr9 hr10 hr11 hr12 hr13 hr14 hr15 hr16 hr17 hr18 hr19 hr20 hr21 hr22
  obtain hS:=(show Sep w [.lst 39 1 pX n cX (ftE T4),.rowm p10 n10 c10 (lim z10.natAbs),.rowm p11 n11 c11 (lim z11.natAbs),.rowm p8 n8 c8 (lim z8.natAbs),.rowm p9 n9 c9 (lim z9.natAbs),.blk g19 [.bool (ng z6),.slice p6 n6 c6,.bool (ng z7),.slice p7 n7 c7] 43,.rowm p6 n6 c6 (lim z6.natAbs),.rowm p7 n7 c7 (lim z7.natAbs),.rowm p4 n4 c4 (lim z4.natAbs),.rowm p5 n5 c5 (lim (1:Int).natAbs),.blk g5 [.bool (ng z4),.slice p4 n4 c4,.bool (ng 1),.slice p5 n5 c5] 43,.blk g1 [.bool false,.slice none 0 0,.bool false,.slice none 0 0] 43] w25 from hS.pick [11,0,1,2,3,4,5,6,7,8,9,10] (by decide) rfl)
  obtain hS:=hS.ftake hTrc hlrc
  obtain hS:=(show Sep w [.rowm p10 n10 c10 (lim z10.natAbs),.rowm p11 n11 c11 (lim z11.natAbs),.lst 43 4 prc n crc (fqs Lrc),.lst 39 1 pX n cX ((ftE T4).set l ⟨[.slice prc n crc],[]⟩),.rowm p8 n8 c8 (lim z8.natAbs),.rowm p9 n9 c9 (lim z9.natAbs),.blk g19 [.bool (ng z6),.slice p6 n6 c6,.bool (ng z7),.slice p7 n7 c7] 43,.rowm p6 n6 c6 (lim z6.natAbs),.rowm p7 n7 c7 (lim z7.natAbs),.rowm p4 n4 c4 (lim z4.natAbs),.rowm p5 n5 c5 (lim (1:Int).natAbs),.blk g5 [.bool (ng z4),.slice p4 n4 c4,.bool (ng 1),.slice p5 n5 c5] 43,.blk g1 [.bool false,.slice none 0 0,.bool false,.slice none 0 0] 43] w25 from hS.pick [2,3,0,1,4,5,6,7,8,9,10,11,12] (by decide) rfl)
  refine wLt 23 rfl (by kernel_rfl) (ostoreL (i:=m) (g:=grc) [.bool (ng z10),.slice p10 n10 c10,.bool (ng z11),.slice p11 n11 c11] [.rowm p10 n10 c10 (lim z10.natAbs),.rowm p11 n11 c11 (lim z11.natAbs)] Tryz.sizeOf43 hS rfl rfl (ev rfl rfl) (ev rfl rfl) (rfl) rfl rfl rfl hgrc (by omega) rfl ?_)
  clear hS; intro w26 hS
  rw [show (⟨[.bool (ng z10),.slice p10 n10 c10,.bool (ng z11),.slice p11 n11 c11],[.rowm p10 n10 c10 (lim z10.natAbs),.rowm p11 n11 c11 (lim z11.natAbs)]⟩:El) = fqE ⟨p10,n10,c10,p11,n11,c11,z10,z11⟩ from rfl,fqs_set] at hS
  obtain hS:=hS.fput (by omega) (List.length_set.trans hlrc)
  refine ⟨hNi,?_⟩
  refine wdone rfl ?_
  refine blkN (tNo (wreg (wmv rfl rfl ?_)))
  refine wbc (z:=.int .i64 ((m + 1:Nat):Int)) rfl rfl (bAd (wI6 (by omega) (by omega))) ?_
  refine wav rfl rfl ?_
  refine wn1 ?_
  exact ⟨(m + 1),⟨_,_,aSs ⟨rfl,rfl,rfl,rfl,rfl,rfl,rfl,rfl,rfl,trivial⟩,hS.pick [3,4,5,6,7,8,9,0] (by decide) rfl,by omega,by omega,by rw [fq_put rfl hTrc]; exact hG.fill (by omega) (by omega) (by unfold fF; rw [if_neg (by omega), ← hz10.out, ← hz11.out]; exact frs_step hDS2.lead hpiv hF6 hG7 hvec hved hz8.out hz9.out)⟩,by omega⟩
 refine wreg (wmv rfl rfl ?_)
 refine wmv rfl rfl ?_
 refine wl rfl (olen rfl rfl rfl Tryz.runUnderlying47 (p:=pX) (k:=n) (m:=cX) (ev rfl rfl) ?_)
 refine wbt rfl rfl rfl rfl (bLs (decide_eq_false (by omega))) ?_
 refine wn1 ?_
 refine wF (ev rfl rfl) ?_
 refine wEx ?_
 refine tEx ?_
 refine tEx ?_
 refine blkE ?_
 refine hQ _ _ ?_
 have hmn:m = n:=by omega
 exact ⟨_,_,aSs ⟨rfl,rfl,rfl,rfl,rfl,rfl,rfl,trivial⟩,hS.pick [0,1,2,3,4,5,6,7] (by decide) rfl,hG.nxt hmn⟩
theorem wdet_l {k0_ k1_ k2_ k3_ k4_ k5_ k6_ k7_ k8_ k9_ k10_ k11_ k12_ k13_ k14_ cB:Code} (hc:(Tryz.f15).body = some (.seq k14_ (.seq k13_ (.seq k12_ (.seq k11_ (.seq (.seq k9_ (.block 2 (.loop (.seq k8_ (.seq k7_ (.seq (.block 3 (.seq k5_ (.seq k4_ (.seq k3_ (.seq k2_ (.seq k1_ (.seq k0_ cB))))))) k6_)))))) k10_)))))) {g1:Nat} {pX:Option Addr} {n:Nat} {cX:Nat} {g5:Nat} {c:Nat} {p4:Option Addr} {n4:Nat} {c4:Nat} {z4:Int} {p5:Option Addr} {n5:Nat} {c5:Nat} {T2:List Fw} {N:Nat → Nat → Int} {M2:Nat → Nat → Int} {V2:Nat → Nat} {S0:Nat} {s2:Int} {f9:Nat → Value} {w w15:World} (hDS2:DS n N M2 V2 S0 c s2) (hS2:S0 ≤ 1048700) (hn:n ≤ 1000) (hlc:c < n) (hTlen2:(ftv T2).length = n) (hTrow2:∀ L ∈ ftv T2,L.length = n) (hE2:∀ l m,c ≤ l → l < n → c ≤ m → m < n → eP (ftv T2) l m = eqq M2 c l m) (hpiv:mn M2 c c c ≠ 0) (hS:Sep w [.rowm p4 n4 c4 (lim z4.natAbs),.rowm p5 n5 c5 (lim (1:Int).natAbs),.blk g5 [.bool (ng z4),.slice p4 n4 c4,.bool (ng 1),.slice p5 n5 c5] 43,.blk g1 [.bool false,.slice none 0 0,.bool false,.slice none 0 0] 43,.lst 39 1 pX n cX (ftE T2)] w15) (hf:AllAt f9 [(2,.pointer (some ⟨g1,0,none⟩)),(3,.slice pX n cX),(6,.pointer (some ⟨g5,0,none⟩)),(7,.int .i64 (((c:Nat):Int))),(26,.int .i64 (((n:Nat):Int))),(27,.int .i64 (((c:Nat):Int)))]) {Q:Exit → Act → World → Prop} (hQp:∀ (d:Option Tmp) v c a w,Q (.panic c) (a.put d v) w → Q (.panic c) a w) (hQ:∀ a9 w',(∃ (fb:Nat → Value) (T3:List Fw),a9 = act 136 (sets fb [(2,.pointer (some ⟨g1,0,none⟩)),(3,.slice pX n cX),(6,.pointer (some ⟨g5,0,none⟩)),(26,.int .i64 (((n:Nat):Int))),(27,.int .i64 (((c:Nat):Int)))]) ∧ Sep w [.rowm p4 n4 c4 (lim z4.natAbs),.rowm p5 n5 c5 (lim (1:Int).natAbs),.blk g5 [.bool (ng z4),.slice p4 n4 c4,.bool (ng 1),.slice p5 n5 c5] 43,.blk g1 [.bool false,.slice none 0 0,.bool false,.slice none 0 0] 43,.lst 39 1 pX n cX (ftE T3)] w' ∧ (FilP (ftv T3) n n n 0 (fF M2 (ftv T2) c) (eP (ftv T2)))) → Q .normal a9 w') :
  CW Tryz.prog cB Q (act 136 f9) w15:=by
 obtain rfl:=(Code.seq.inj (Code.seq.inj (Code.seq.inj (Code.seq.inj (Code.seq.inj (Code.seq.inj (Code.block.inj (Code.seq.inj (Code.seq.inj (Code.seq.inj (Code.loop.inj (Code.block.inj (Code.seq.inj (Code.seq.inj (Code.seq.inj (Code.seq.inj (Code.seq.inj (Code.seq.inj (Option.some.inj hc)).2).2).2).2).1).2).2)).2).2).1).2).2).2).2).2).2).2
 clear hc
 rw [aSs hf]
 refine wsr (wmv rfl rfl ?_)
 refine wbc (z:=.int .i64 ((c + 1:Nat):Int)) rfl rfl (bAd (wI6 (by omega) (by omega))) ?_
 refine wav rfl rfl ?_
 refine wn1 (wBk ?_)
 refine wLp (σ := Nat) (fun l a9 w' => ∃ (fb:Nat → Value) (T3:List Fw),a9 = act 136 (sets fb [(2,.pointer (some ⟨g1,0,none⟩)),(3,.slice pX n cX),(6,.pointer (some ⟨g5,0,none⟩)),(7,.int .i64 (c:Int)),(9,.int .i64 (l:Int)),(26,.int .i64 (n:Int)),(27,.int .i64 (c:Int))]) ∧ Sep w [.rowm p4 n4 c4 (lim z4.natAbs),.rowm p5 n5 c5 (lim (1:Int).natAbs),.blk g5 [.bool (ng z4),.slice p4 n4 c4,.bool (ng 1),.slice p5 n5 c5] 43,.blk g1 [.bool false,.slice none 0 0,.bool false,.slice none 0 0] 43,.lst 39 1 pX n cX (ftE T3)] w' ∧ (c + 1 ≤ l) ∧ (l ≤ n) ∧ (FilP (ftv T3) n n l 0 (fF M2 (ftv T2) c) (eP (ftv T2)))) (fun l => n - l) ((c + 1)) ⟨_,T2,aSs ⟨rfl,rfl,rfl,rfl,rfl,rfl,rfl,trivial⟩,hS,Nat.le_refl _,by omega,filp_init hTlen2 hTrow2⟩ ?_
 clear hS; rintro l _ w16 ⟨fb,T3,rfl,hS,hl1,hl2,hF⟩
 refine wSq (wSq ?_)
 by_cases hll:l < n
 ·
  have hT3n:T3.length = n:=by rw [← ftv_len]; exact hF.len
  refine wreg (wmv rfl rfl ?_)
  refine wmv rfl rfl ?_
  refine wl rfl (olen rfl rfl rfl Tryz.runUnderlying47 (p:=pX) (k:=n) (m:=cX) (ev rfl rfl) ?_)
  refine wbt rfl rfl rfl rfl (bLs (decide_eq_true (by omega))) ?_
  refine wn1 ?_
  refine wT (ev rfl rfl) ?_
  refine wSk (tNo (wSq (wBk (wSq ?_))))
  obtain ⟨gt17,hgt17⟩:=hS.lstPtr 4 rfl (by omega)
  obtain ⟨⟨pra,cra,Lra⟩,hTra⟩:∃ r,(T3)[l]? = some r:=⟨_,List.getElem?_eq_getElem (by omega)⟩
  have hlra:Lra.length = n:=fq_len rfl hF.row hTra
  obtain ⟨gra,hgra⟩:=hS.frp 4 rfl hTra (by omega)
  obtain ⟨gt18,hgt18⟩:=hS.lstPtr 4 rfl (by omega)
  obtain ⟨⟨prb,crb,Lrb⟩,hTrb⟩:∃ r,(T3)[c]? = some r:=⟨_,List.getElem?_eq_getElem (by omega)⟩
  have hlrb:Lrb.length = n:=fq_len rfl hF.row hTrb
  obtain ⟨grb,hgrb⟩:=hS.frp 4 rfl hTrb (by omega)
  have hW9:=hDS2.wen (i:=l) (j:=c) hS2 (by omega) (by omega) (Nat.le_refl _) (by omega)
  obtain ⟨⟨pea,nea,cea,qea,mea,dea,zea,yea⟩,hLea⟩:∃ e,Lra[c]? = some e:=⟨_,List.getElem?_eq_getElem (by omega)⟩
  have hvea:=(fq_el rfl hTra hLea).trans ((hF.el (by omega) (by omega) (Nat.zero_le _)).trans (hE2 l c (by omega) (by omega) (by omega) (by omega)))
  have hwzea:Wd zea 1048704:=by have h9:=congrArg Prod.fst hvea; simp only at h9; rw [h9]; exact hW9.1
  have hwyea:Wd yea 1048704:=by have h9:=congrArg Prod.snd hvea; simp only at h9; rw [h9]; exact hW9.2
  have hW9:=hDS2.wen (i:=c) (j:=c) hS2 (Nat.le_refl _) (by omega) (Nat.le_refl _) (by omega)
  obtain ⟨⟨peb,neb,ceb,qeb,meb,deb,zeb,yeb⟩,hLeb⟩:∃ e,Lrb[c]? = some e:=⟨_,List.getElem?_eq_getElem (by omega)⟩
  have hveb:=(fq_el rfl hTrb hLeb).trans ((filp_piv hF (by omega) (by omega) (by omega)).trans (hE2 c c (by omega) (by omega) (by omega) (by omega)))
  have hwzeb:Wd zeb 1048704:=by have h9:=congrArg Prod.fst hveb; simp only at h9; rw [h9]; exact hW9.1
  have hwyeb:Wd yeb 1048704:=by have h9:=congrArg Prod.snd hveb; simp only at h9; rw [h9]; exact hW9.2
  have hzb:zeb ≠ 0:=fun h => hpiv ((RN_zero hDS2.lead).1 ((congrArg Prod.fst hveb).symm.trans h))
  obtain ⟨z6,hz6⟩:∃ z:Int,Hid (RN (zea * yeb) (yea * zeb) = z):=⟨_,rfl⟩
  have hk6:Wd z6 2097408:=Wd.rn (Wd.mul (m:=2097408) hwzea hwyeb rfl (by omega)) hz6
  obtain ⟨z7,hz7⟩:∃ z:Int,Hid (RD (zea * yeb) (yea * zeb) = z):=⟨_,rfl⟩
  have hk7:Wd z7 2097408:=Wd.rd (Wd.mul (m:=2097408) hwyea hwzeb rfl (by omega)) hz7
  refine wSg 16 [89,90,91,92,93,94,95,96,97,98,99,100,101,102,103,10] [[],[],[0,1],[2,0,1],[],[3,4,0,1,2],[5,0,1,2,3,4],[],[],[7,8],[9,7,8],[],[10,11,7,8,9],[12,7,8,9,10,11],[6,13,0,1,2,3,4,5,7,8,9,10,11,12],[]] [] [] [] (fun i9 => ([iSv (.slice pX n cX),iSv (.int .i64 (l:Int)),iSv (.pointer (some ⟨gt18,(0 + l * 1),none⟩)),iSv (.slice pra Lra.length cra),iSv (.int .i64 (c:Int)),iSv (.pointer (some ⟨gra,(0 + c * 4),none⟩)),iSv (.agg #[.bool (ng zea),.slice pea nea cea,.bool (ng yea),.slice qea mea dea]),iSv (.slice pX n cX),iSv (.int .i64 (c:Int)),iSv (.pointer (some ⟨gt18,(0 + c * 1),none⟩)),iSv (.slice prb Lrb.length crb),iSv (.int .i64 (c:Int)),iSv (.pointer (some ⟨grb,(0 + c * 4),none⟩)),iSv (.agg #[.bool (ng zeb),.slice peb neb ceb,.bool (ng yeb),.slice qeb meb deb]),fun _ => Rrt z6 z7,fun _ => Ptr [.bool false,.slice none 0 0,.bool false,.slice none 0 0] 43]:List (List Value → Tell)).getD i9 (fun _ _ _ => False)) hNi (fun d v c a w h => hQp d v c a w h) (by kernel_rfl) (by kernel_rfl) (by kernel_rfl) hS ?_ ?_
  ·
   refine stM rfl rfl rfl rfl rfl (fun _=>isI) ?_
   refine stM rfl rfl rfl rfl rfl (fun _=>isI) ?_
   refine stT rfl (fun hT hS=>?_) ?_
   ·obtain ⟨hv0,hr0⟩:=hT 0 89 rfl rfl
    obtain ⟨hv1,hr1⟩:=hT 1 90 rfl rfl
    obtain hS:=hS.flat2 hr0 hr1
    exact inNo rfl (oIx (p:=pX) (g:=gt18) (off:=0) (m:=n) (k:=l) (j:=(0 + l * 1)) rfl rfl Tryz.runUnderlying47 Tryz.sizeOf39 (ev rfl hv0) hgt18 (ev rfl hv1) (by omega) rfl (nSm rfl isI))
   refine stT rfl (fun hT hS=>?_) ?_
   ·obtain ⟨hv2,hr2⟩:=hT 2 91 rfl rfl
    obtain hS:=hS.flat1 hr2
    exact inNo rfl (oLc ⟨Tryz.isAgg39,Tryz.sizeOf39⟩ rfl rfl (ev rfl hv2) (hS.frc 4 rfl hTra hgt18) (nSm rfl isI))
   refine stM rfl rfl rfl rfl rfl (fun _=>isI) ?_
   refine stT rfl (fun hT hS=>?_) ?_
   ·obtain ⟨hv3,hr3⟩:=hT 3 92 rfl rfl
    obtain ⟨hv4,hr4⟩:=hT 4 93 rfl rfl
    obtain hS:=hS.flat2 hr3 hr4
    exact inNo rfl (oIx (p:=pra) (g:=gra) (off:=0) (m:=Lra.length) (k:=c) (j:=(0 + c * 4)) rfl rfl Tryz.runUnderlying39 Tryz.sizeOf43 (ev rfl hv3) hgra (ev rfl hv4) (by omega) rfl (nSm rfl isI))
   refine stT rfl (fun hT hS=>?_) ?_
   ·obtain ⟨hv5,hr5⟩:=hT 5 94 rfl rfl
    obtain hS:=hS.flat1 hr5
    exact inNo rfl (oloadA aggR rfl rfl (ev rfl hv5) (hS.fec 4 rfl hTra hLea hgra) rfl (nSm rfl isI))
   refine stM rfl rfl rfl rfl rfl (fun _=>isI) ?_
   refine stM rfl rfl rfl rfl rfl (fun _=>isI) ?_
   refine stT rfl (fun hT hS=>?_) ?_
   ·obtain ⟨hv7,hr7⟩:=hT 7 96 rfl rfl
    obtain ⟨hv8,hr8⟩:=hT 8 97 rfl rfl
    obtain hS:=hS.flat2 hr7 hr8
    exact inNo rfl (oIx (p:=pX) (g:=gt18) (off:=0) (m:=n) (k:=c) (j:=(0 + c * 1)) rfl rfl Tryz.runUnderlying47 Tryz.sizeOf39 (ev rfl hv7) hgt18 (ev rfl hv8) (by omega) rfl (nSm rfl isI))
   refine stT rfl (fun hT hS=>?_) ?_
   ·obtain ⟨hv9,hr9⟩:=hT 9 98 rfl rfl
    obtain hS:=hS.flat1 hr9
    exact inNo rfl (oLc ⟨Tryz.isAgg39,Tryz.sizeOf39⟩ rfl rfl (ev rfl hv9) (hS.frc 4 rfl hTrb hgt18) (nSm rfl isI))
   refine stM rfl rfl rfl rfl rfl (fun _=>isI) ?_
   refine stT rfl (fun hT hS=>?_) ?_
   ·obtain ⟨hv10,hr10⟩:=hT 10 99 rfl rfl
    obtain ⟨hv11,hr11⟩:=hT 11 100 rfl rfl
    obtain hS:=hS.flat2 hr10 hr11
    exact inNo rfl (oIx (p:=prb) (g:=grb) (off:=0) (m:=Lrb.length) (k:=c) (j:=(0 + c * 4)) rfl rfl Tryz.runUnderlying39 Tryz.sizeOf43 (ev rfl hv10) hgrb (ev rfl hv11) (by omega) rfl (nSm rfl isI))
   refine stT rfl (fun hT hS=>?_) ?_
   ·obtain ⟨hv12,hr12⟩:=hT 12 101 rfl rfl
    obtain hS:=hS.flat1 hr12
    exact inNo rfl (oloadA aggR rfl rfl (ev rfl hv12) (hS.fec 4 rfl hTrb hLeb hgrb) rfl (nSm rfl isI))
   refine stT rfl (fun hT hS=>?_) ?_
   ·obtain ⟨hv6,hr6⟩:=hT 6 95 rfl rfl
    obtain ⟨hv13,hr13⟩:=hT 13 102 rfl rfl
    obtain hS:=hS.flat2 hr6 hr13
    exact .inl ⟨wNo rfl,oCl rfl rfl Tryz.call52 rfl (wsquo ((hS.fez 4 rfl hTra hLea hwzea).mono (by omega)) ((hS.fed 4 rfl hTra hLea hwyea).mono (by omega)) ((hS.fez 4 rfl hTrb hLeb hwzeb).mono (by omega)) ((hS.fed 4 rfl hTrb hLeb hwyeb).mono (by omega)) (eq_den hDS2.lead hvea) (eq_den hDS2.lead hveb) hzb hz6 hz7) (ar2 (ev rfl hv6) (ev rfl hv13)) cNw⟩
   refine stT rfl (fun _ _=>?_) ?_
   ·exact .inl ⟨wNo rfl,oallocN [.bool false,.slice none 0 0,.bool false,.slice none 0 0] rfl rfl Tryz.zeroValue43 rfl ⟨_,_,rfl,ptrI,New.blk _ _ _⟩⟩
   exact sNi
  intro vs ρ w20 f' hf hT hS
  obtain ⟨hv0,hr0⟩:=hT 0 (by decide)
  obtain ⟨hv1,hr1⟩:=hT 1 (by decide)
  obtain ⟨hv2,hr2⟩:=hT 2 (by decide)
  obtain ⟨hv3,hr3⟩:=hT 3 (by decide)
  obtain ⟨hv4,hr4⟩:=hT 4 (by decide)
  obtain ⟨hv5,hr5⟩:=hT 5 (by decide)
  obtain ⟨hv6,hr6⟩:=hT 6 (by decide)
  obtain ⟨hv7,hr7⟩:=hT 7 (by decide)
  obtain ⟨hv8,hr8⟩:=hT 8 (by decide)
  obtain ⟨hv9,hr9⟩:=hT 9 (by decide)
  obtain ⟨hv10,hr10⟩:=hT 10 (by decide)
  obtain ⟨hv11,hr11⟩:=hT 11 (by decide)
  obtain ⟨hv12,hr12⟩:=hT 12 (by decide)
  obtain ⟨hv13,hr13⟩:=hT 13 (by decide)
  obtain ⟨p6,n6,c6,p7,n7,c7,hv14,hr14⟩:=(hT 14 (by decide):(Rrt z6 z7) _ _)
  obtain ⟨g19,hv15,hr15⟩:=(hT 15 (by decide):(Ptr [.bool false,.slice none 0 0,.bool false,.slice none 0 0] 43) _ _)
  simp only [pool,if_true,hr0,hr1,hr2,hr3,hr4,hr5,hr6,hr7,hr8,hr9,hr10,hr11,hr12,hr13,hr14,hr15,List.nil_append,List.cons_append,List.append_nil] at hS
  simp only [layf,hv0,hv1,hv2,hv3,hv4,hv5,hv6,hv7,hv8,hv9,hv10,hv11,hv12,hv13,hv14,hv15] at hf
  subst hf; clear hT hv0 hv1 hv2 hv3 hv4 hv5 hv6 hv7 hv8 hv9 hv10 hv11 hv12 hv13 hv14 hv15 hr0 hr1 hr2 hr3 hr4 hr5 hr6 hr7 hr8 hr9 hr10 hr11 hr12 hr13 hr14 hr15
  refine wLt 16 rfl (by kernel_rfl) (oSt _ _ Tryz.sizeOf43 hS 0 rfl rfl (ev rfl rfl) (ev rfl rfl) rfl rfl rfl rfl rfl rfl ?_)
  clear hS; intro w21 hS
  refine ⟨hNi,?_⟩
  refine wdone rfl ?_
  refine tNo ?_
  have hq9:=quo_step hDS2.lead hvea hveb hzb hpiv
  have hF6:=hq9.1.symm.trans hz6.out
  have hG7:=hq9.2.symm.trans hz7.out
  refine wdet_m rfl hDS2 hS2 hn hlc hTlen2 hTrow2 hE2 hpiv hl1 hll hF hF6 hG7 hk6 hk7 hS ⟨rfl,rfl,rfl,rfl,rfl,rfl,rfl,rfl,trivial⟩ (fun d v c a w h => hQp d v c a w h) ?_
  clear hS; rintro _ w22 ⟨fb,T4,rfl,hS,hF2⟩
  refine blkN (tNo (wreg (wmv rfl rfl ?_)))
  refine wbc (z:=.int .i64 ((l + 1:Nat):Int)) rfl rfl (bAd (wI6 (by omega) (by omega))) ?_
  refine wav rfl rfl ?_
  refine wn1 ?_
  exact ⟨(l + 1),⟨_,_,aSs ⟨rfl,rfl,rfl,rfl,rfl,rfl,rfl,trivial⟩,hS.pick [3,4,5,6,7] (by decide) rfl,by omega,by omega,hF2⟩,by omega⟩
 refine wreg (wmv rfl rfl ?_)
 refine wmv rfl rfl ?_
 refine wl rfl (olen rfl rfl rfl Tryz.runUnderlying47 (p:=pX) (k:=n) (m:=cX) (ev rfl rfl) ?_)
 refine wbt rfl rfl rfl rfl (bLs (decide_eq_false (by omega))) ?_
 refine wn1 ?_
 refine wF (ev rfl rfl) ?_
 refine wEx ?_
 refine tEx ?_
 refine tEx ?_
 refine blkE ?_
 refine hQ _ _ ?_
 exact ⟨_,_,aSs ⟨rfl,rfl,rfl,rfl,rfl,trivial⟩,hS.pick [0,1,2,3,4] (by decide) rfl,hF.at (by omega)⟩
theorem wdet12 {px : Option Addr} {n cx S0 : Nat} {N : Nat → Nat → Int} {V0 : Nat → Nat} {w : World} (hX : TLb w px n (tbl n n N) 2097408) (h0 : n ≠ 0) (hn : n ≤ 1000) (hV : ∀ r, r < n → ras n N r < 4294967296 ^ V0 r) (hS0 : sN n V0 = S0) (hS2 : S0 ≤ 1048700) :
    Calls Tryz.prog 15 #[.slice px n cx] w (Ret (Rrt (dt n N) 1) w):=by
  have hAl:(tbl n n N).length = n:=tbl_len n n N
  have hS:=Sep.init w
  refine went Tryz.func15 rfl (n:=136) rfl rfl ?_
  refine wSq ?_
  replace hS:=hS.nilLst 39 1
  refine wreg (wl rfl (oAl [.bool false,.slice none 0 0,.bool false,.slice none 0 0] hS rfl rfl Tryz.zeroValue43 rfl ?_))
  clear hS; intro g1 w2 hS
  refine wn2 (wavc ?_)
  refine wn1 (wSq (wsr (wmv rfl rfl ?_)))
  refine wl rfl (olen rfl rfl rfl Tryz.runUnderlying47 (p:=px) (k:=n) (m:=cx) (ev rfl rfl) ?_)
  refine wmvc ?_
  refine wn1 (wBk ?_)
  refine wLp (σ := Nat) (fun i a9 w' => ∃ (fb:Nat → Value) (T:List Fw) (pX:Option Addr) (cX:Nat),a9 = act 136 (sets fb [(2,.pointer (some ⟨g1,0,none⟩)),(3,.slice pX i cX),(12,.slice px n cx),(13,.int .i64 (n:Int)),(14,.int .i64 (i:Int))]) ∧ Sep w [.blk g1 [.bool false,.slice none 0 0,.bool false,.slice none 0 0] 43,.lst 39 1 pX i cX (ftE T)] w' ∧ (i ≤ n) ∧ (ftv T = ((tbl n n N).take i).map fun L => L.map fun z => (z,1))) (fun i => n - i) (0) ⟨_,[],none,0,aSs ⟨rfl,rfl,rfl,rfl,rfl,trivial⟩,hS,Nat.zero_le _,rfl⟩ ?_
  clear hS; rintro i _ w3 ⟨fb,T,pX,cX,rfl,hS,hi,hT⟩
  refine wSq ?_
  by_cases hli:i < n
  ·
    obtain ⟨xr,hxr⟩:∃ r,((tbl n n N))[i]? = some r:=⟨_,List.getElem?_eq_getElem (by have:=hX.1; omega)⟩
    obtain ⟨br,ofr,pr,cr,hpr,hcr,hsr⟩:=hX.2.2 i _ hxr
    have hrl:xr.length = n:=tbl_row n n N xr (List.mem_of_getElem? hxr)
    refine wreg (wbt rfl rfl rfl rfl (bLs (decide_eq_true (by omega))) ?_)
    refine wn1 (wSq ?_)
    refine wT (ev rfl rfl) ?_
    refine wk2 (wl rfl (oIx (p:=px) (g:=br) (off:=ofr) (m:=n) (k:=i) (j:=(ofr + i * 1)) rfl rfl Tryz.runUnderlying47 Tryz.sizeOf39 (ev rfl rfl) hpr (ev rfl rfl) (by omega) rfl ?_))
    refine wl rfl (oLc ⟨Tryz.isAgg39,Tryz.sizeOf39⟩ rfl rfl (ev rfl rfl) (hS.cellAt (hcr 0 _ rfl)) ?_)
    refine wav rfl rfl ?_
    refine wn1 (wreg (wmv rfl rfl ?_))
    refine wmv rfl rfl ?_
    refine wcl Tryz.call47 (wsCopyAll ((hsr.at hS).mono2 (by decide))) (ar1 (ev rfl rfl)) hS ?_
    clear hS; rintro _ _ w4 ⟨gC,esC,hqC,rfl,rfl⟩ hS
    refine wl rfl (obslice (ps:=#[(0,.slice (some ⟨gC,0,none⟩) xr.length xr.length)]) (z:=.slice none 0 0) [.slice (some ⟨gC,0,none⟩) xr.length xr.length] hS rfl rfl Tryz.runUnderlying47 Tryz.sizeOf39 Tryz.zeroValue39 (parts1 (ev (v:=.slice (some ⟨gC,0,none⟩) xr.length xr.length) rfl rfl)) rfl (by decide) (fill1_1s rfl rfl) ?_)
    clear hS; intro g5 w6 hS
    obtain ⟨Q9,rfl,hQ9⟩:=qls_fqs hqC (hS.lstLen 1 rfl) rfl
    have hQl:Q9.length = xr.length:=by rw [← fqv_len,hQ9,List.length_map]
    obtain hS:=(show Sep w [.lst 43 4 (some ⟨gC,0,none⟩) xr.length xr.length (fqs Q9),.lst 39 1 pX i cX (ftE T),.blk g5 [.slice (some ⟨gC,0,none⟩) xr.length xr.length] 39,.blk g1 [.bool false,.slice none 0 0,.bool false,.slice none 0 0] 43] w6 from hS.pick [1,3,0,2] (by decide) rfl)
    refine wl rfl (oappendL (p:=pX) (m:=i) (c:=cX) (g2:=g5) (c2:=1) (off:=0) [.slice (some ⟨gC,0,none⟩) xr.length xr.length] [.lst 43 4 (some ⟨gC,0,none⟩) xr.length xr.length (fqs Q9)] hS rfl rfl Tryz.underlying47 infoRRow rfl (by decide) (ev rfl rfl) (ev rfl rfl) (fun j v hj => by rw [Nat.zero_add]; exact (blk_cell (hS.blkAt 2 rfl) j).trans hj) rfl rfl rfl (by omega) (by omega) ?_)
    clear hS; intro p8 c9 w7 hS
    refine wav rfl rfl ?_
    refine wnil (blkN (tNo ?_))
    rw [ft_snoc hQl] at hS
    refine wreg (wbc (z:=.int .i64 ((i + 1:Nat):Int)) rfl rfl (bAd (wI6 (by omega) (by omega))) ?_)
    refine wmv rfl rfl ?_
    refine wn1 ?_
    exact ⟨(i + 1),⟨_,_,_,_,aSs ⟨rfl,rfl,rfl,rfl,rfl,trivial⟩,hS.pick [2,0] (by decide) rfl,by omega,by rw [ftv_snoc,hT,hQ9,take_next hxr,List.map_append]; rfl⟩,by omega⟩
  refine wreg (wbt rfl rfl rfl rfl (bLs (decide_eq_false (by omega))) ?_)
  refine wn1 (wSq ?_)
  refine wF (ev rfl rfl) ?_
  refine wEx ?_
  refine tEx ?_
  refine tEx ?_
  refine blkE ?_
  refine tNo (wSq ?_)
  have hin:n = i:=by omega
  subst hin
  rw [List.take_of_length_le (by omega)] at hT
  obtain ⟨hTl0,hTr0,hE0⟩:=tab_start hT
  refine wreg ?_
  have hk1:Wd 1 2:=Wd.i64 (by omega) (by omega)
  have hk2:Wd 1 2:=Wd.i64 (by omega) (by omega)
  refine wcl Tryz.call48 (wsof (x:=1) (by omega) (by omega)) (ar1 evc) hS ?_
  clear hS; rintro _ _ w4 ⟨p1,n1,c1,p2,n2,c2,rfl,rfl⟩ hS
  refine wl rfl (oAl [.bool false,.slice none 0 0,.bool false,.slice none 0 0] hS rfl rfl Tryz.zeroValue43 rfl ?_)
  clear hS; intro g5 w6 hS
  refine wl rfl (oSt _ _ Tryz.sizeOf43 hS 0 rfl rfl (ev rfl rfl) (ev rfl rfl) rfl rfl rfl rfl rfl rfl ?_)
  clear hS; intro w7 hS
  refine wn1 (wSq (wsr (wmv rfl rfl ?_)))
  refine wl rfl (olen rfl rfl rfl Tryz.runUnderlying47 (p:=pX) (k:=n) (m:=cX) (ev rfl rfl) ?_)
  refine wmvc ?_
  refine wn1 (wBk ?_)
  refine wLp (σ := Nat) (fun c a9 w' => ∃ (fb:Nat → Value) (M:Nat → Nat → Int) (V:Nat → Nat) (sg:Int) (T:List Fw) (dv:Int) (pdz:Option Addr) (ndz:Nat) (cdz:Nat) (pdo:Option Addr) (ndo:Nat) (cdo:Nat),a9 = act 136 (sets fb [(2,.pointer (some ⟨g1,0,none⟩)),(3,.slice pX n cX),(6,.pointer (some ⟨g5,0,none⟩)),(26,.int .i64 (n:Int)),(27,.int .i64 (c:Int))]) ∧ Sep w [.blk g5 [.bool (ng dv),.slice pdz ndz cdz,.bool (ng ((1:Int))),.slice pdo ndo cdo] 43,.rowm pdz ndz cdz (lim dv.natAbs),.rowm pdo ndo cdo (lim ((1:Int)).natAbs),.blk g1 [.bool false,.slice none 0 0,.bool false,.slice none 0 0] 43,.lst 39 1 pX n cX (ftE T)] w' ∧ (c ≤ n) ∧ (DS n N M V S0 c sg) ∧ ((ftv T).length = n) ∧ (∀ L ∈ ftv T,L.length = n) ∧ (∀ l m,c ≤ l → l < n → c ≤ m → m < n → eP (ftv T) l m = eqq M c l m) ∧ (dv = sg * dt c M) ∧ (Wd dv 1048704) ∧ (Wd ((1:Int)) 2)) (fun c => n - c) (0) ⟨_,N,V0,1,T,1,_,_,_,_,_,_,aSs ⟨rfl,rfl,rfl,rfl,rfl,trivial⟩,hS,Nat.zero_le _,DS.start hV hS0,hTl0,hTr0,fun l m _ h1 _ h2 => hE0 l m h1 h2,rfl,(hk1).mono (by omega),(hk2).mono (by omega)⟩ ?_
  clear hS; rintro c _ w8 ⟨fb,M,V,sg,T,dv,pdz,ndz,cdz,pdo,ndo,cdo,rfl,hS,hc,hDS,hTlen,hTrow,hE,hdv,hkdz,hkdo⟩
  refine wSq ?_
  by_cases hlc:c < n
  ·
    refine wreg (wbt rfl rfl rfl rfl (bLs (decide_eq_true (by omega))) ?_)
    refine wn1 (wSq ?_)
    refine wT (ev rfl rfl) ?_
    refine wk2 (wmv rfl rfl ?_)
    refine wav rfl rfl ?_
    refine wn2 (wmv rfl rfl ?_)
    refine wav rfl rfl ?_
    refine wn1 (wSq (wBk ?_))
    refine wLp (σ := Nat) (fun a a9 w' => ∃ (fb:Nat → Value),a9 = act 136 (sets fb [(2,.pointer (some ⟨g1,0,none⟩)),(3,.slice pX n cX),(6,.pointer (some ⟨g5,0,none⟩)),(7,.int .i64 (c:Int)),(8,.int .i64 (a:Int)),(26,.int .i64 (n:Int)),(27,.int .i64 (c:Int))]) ∧ Sep w [.blk g5 [.bool (ng dv),.slice pdz ndz cdz,.bool (ng ((1:Int))),.slice pdo ndo cdo] 43,.rowm pdz ndz cdz (lim dv.natAbs),.rowm pdo ndo cdo (lim ((1:Int)).natAbs),.blk g1 [.bool false,.slice none 0 0,.bool false,.slice none 0 0] 43,.lst 39 1 pX n cX (ftE T)] w' ∧ (c ≤ a) ∧ (a ≤ n) ∧ (∀ i,c ≤ i → i < a → (eqq M c i c).1 = 0)) (fun a => n - a) (c) ⟨_,aSs ⟨rfl,rfl,rfl,rfl,rfl,rfl,rfl,trivial⟩,hS,Nat.le_refl _,by omega,fun i h1 h2 => by omega⟩ ?_
    clear hS; rintro a _ w9 ⟨fb,rfl,hS,ha1,ha2,hz⟩
    refine wSq (wSq ?_)
    by_cases hla:a < n
    ·
      have hTn:T.length = n:=by rw [← ftv_len]; exact hTlen
      refine wreg (wmv rfl rfl ?_)
      refine wmv rfl rfl ?_
      refine wl rfl (olen rfl rfl rfl Tryz.runUnderlying47 (p:=pX) (k:=n) (m:=cX) (ev rfl rfl) ?_)
      refine wbt rfl rfl rfl rfl (bLs (decide_eq_true (by omega))) ?_
      refine wmv rfl rfl ?_
      refine wlOn (e:=35) rfl rfl rfl rfl (omove rfl rfl (ev rfl rfl) ?_)
      refine wlOn (e:=35) rfl rfl rfl rfl (omove rfl rfl (ev rfl rfl) ?_)
      obtain ⟨gt10,hgt10⟩:=hS.lstPtr 4 rfl (by omega)
      obtain ⟨⟨pr,cr,Lr⟩,hTr⟩:∃ r,(T)[a]? = some r:=⟨_,List.getElem?_eq_getElem (by omega)⟩
      have hlr:Lr.length = n:=fq_len rfl hTrow hTr
      obtain ⟨gr,hgr⟩:=hS.frp 4 rfl hTr (by omega)
      have hW9:=hDS.wen hS2 ha1 (by omega) (Nat.le_refl _) (by omega)
      obtain ⟨⟨pe,ne,ce,qe,me,de,ze,ye⟩,hLe⟩:∃ e,Lr[c]? = some e:=⟨_,List.getElem?_eq_getElem (by omega)⟩
      have hve:=(fq_el rfl hTr hLe).trans (hE a c (by omega) (by omega) (Nat.le_refl _) (by omega))
      have hwze:Wd ze 1048704:=by have h9:=congrArg Prod.fst hve; simp only at h9; rw [h9]; exact hW9.1
      have hwye:Wd ye 1048704:=by have h9:=congrArg Prod.snd hve; simp only at h9; rw [h9]; exact hW9.2
      refine wlOn (e:=35) rfl rfl rfl rfl (oIx (p:=pX) (g:=gt10) (off:=0) (m:=n) (k:=a) (j:=(0 + a * 1)) rfl rfl Tryz.runUnderlying47 Tryz.sizeOf39 (ev rfl rfl) hgt10 (ev rfl rfl) (by omega) rfl ?_)
      refine wlOn (e:=35) rfl rfl rfl rfl (oLc ⟨Tryz.isAgg39,Tryz.sizeOf39⟩ rfl rfl (ev rfl rfl) (hS.frc 4 rfl hTr hgt10) ?_)
      refine wlOn (e:=35) rfl rfl rfl rfl (omove rfl rfl (ev rfl rfl) ?_)
      refine wlOn (e:=35) rfl rfl rfl rfl (oIx (p:=pr) (g:=gr) (off:=0) (m:=Lr.length) (k:=c) (j:=(0 + c * 4)) rfl rfl Tryz.runUnderlying39 Tryz.sizeOf43 (ev rfl rfl) hgr (ev rfl rfl) (by omega) rfl ?_)
      refine wlOn (e:=35) rfl rfl rfl rfl (oloadA aggR rfl rfl (ev rfl rfl) (hS.fec 4 rfl hTr hLe hgr) rfl ?_)
      obtain ⟨s3,hs3⟩:∃ z:Int,Hid ((ze:Int).sign * (ye:Int).sign = z):=⟨_,rfl⟩
      refine wlOn (e:=35) rfl rfl rfl rfl (oCl rfl rfl Tryz.call49 rfl (wssign ((hS.fez 4 rfl hTr hLe hwze).mono (by omega)) ((hS.fed 4 rfl hTr hLe hwye).mono (by omega)) (by have h9:=congrArg Prod.snd hve; simp only at h9; rw [h9]; exact Int.ne_of_gt (RD_pos hDS.lead)) hs3) (ar1 (ev rfl rfl)) ?_)
      rintro _ w11 ⟨_,_,rfl,⟨rfl,rfl⟩,hN⟩
      refine ⟨_,rfl,?_⟩
      replace hS:=hS.news hN; clear hN
      by_cases hze:ze = 0
      ·
        refine wlOn (e:=35) rfl rfl rfl rfl (obin (z:=.bool true) rfl rfl (ev rfl rfl) evc (bEq (rs_zero hs3 hze)) ?_)
        refine wl rfl (opick rfl rfl (ev rfl rfl) (ev rfl rfl) ?_)
        refine wn1 ?_
        refine wT (ev rfl rfl) ?_
        refine wSk (tNo (wBk (wreg (wmv rfl rfl ?_))))
        refine wbc (z:=.int .i64 ((a + 1:Nat):Int)) rfl rfl (bAd (wI6 (by omega) (by omega))) ?_
        refine wav rfl rfl ?_
        refine wnil (blkN (tNo ?_))
        exact ⟨(a + 1), ⟨_, aSs (l := [(2, .pointer (some ⟨g1, 0, none⟩)), (3, .slice pX n cX), (6, .pointer (some ⟨g5, 0, none⟩)), (7, .int .i64 (c : Int)), (8, .int .i64 (((a + 1 : Nat) : Int))), (26, .int .i64 (n : Int)), (27, .int .i64 (c : Int))]) ⟨rfl, rfl, rfl, rfl, rfl, rfl, rfl, trivial⟩, hS.pick [0, 1, 2, 3, 4] (by decide) rfl, by omega, by omega, fun i h1 h2 => by
                  by_cases e:i = a
                  · rw [e, ← congrArg Prod.fst hve]; exact hze
                  exact hz i h1 (by omega)⟩,by omega⟩
      refine wlOn (e:=35) rfl rfl rfl rfl (obin (z:=.bool false) rfl rfl (ev rfl rfl) evc (bEq (rs_ne hs3 hze (by have h9:=congrArg Prod.snd hve; simp only at h9; rw [h9]; exact Int.ne_of_gt (RD_pos hDS.lead)))) ?_)
      refine wl rfl (opick rfl rfl (ev rfl rfl) (ev rfl rfl) ?_)
      refine wn1 ?_
      refine wF (ev rfl rfl) ?_
      refine wEx ?_
      refine tEx ?_
      refine tEx ?_
      refine blkE ?_
      refine tNo (wSq (wsr (wmv rfl rfl ?_)))
      refine wmv rfl rfl ?_
      refine wl rfl (olen rfl rfl rfl Tryz.runUnderlying47 (p:=pX) (k:=n) (m:=cX) (ev rfl rfl) ?_)
      refine wbt rfl rfl rfl rfl (bEq (eqF (by omega))) ?_
      refine wn1 ?_
      refine wF (ev rfl rfl) ?_
      refine wSk (tNo ?_)
      refine wjoin (I:=fun a9 w' => ∃ (fb:Nat → Value) (M2:Nat → Nat → Int) (V2:Nat → Nat) (s2:Int) (T2:List Fw) (dv2:Int) (pdz2:Option Addr) (ndz2:Nat) (cdz2:Nat) (pdo2:Option Addr) (ndo2:Nat) (cdo2:Nat),a9 = act 136 (sets fb [(2,.pointer (some ⟨g1,0,none⟩)),(3,.slice pX n cX),(6,.pointer (some ⟨g5,0,none⟩)),(7,.int .i64 (c:Int)),(26,.int .i64 (n:Int)),(27,.int .i64 (c:Int))]) ∧ Sep w [.blk g5 [.bool (ng dv2),.slice pdz2 ndz2 cdz2,.bool (ng ((1:Int))),.slice pdo2 ndo2 cdo2] 43,.rowm pdz2 ndz2 cdz2 (lim dv2.natAbs),.rowm pdo2 ndo2 cdo2 (lim ((1:Int)).natAbs),.blk g1 [.bool false,.slice none 0 0,.bool false,.slice none 0 0] 43,.lst 39 1 pX n cX (ftE T2)] w' ∧ (DS n N M2 V2 S0 c s2) ∧ ((ftv T2).length = n) ∧ (∀ L ∈ ftv T2,L.length = n) ∧ (∀ l m,c ≤ l → l < n → c ≤ m → m < n → eP (ftv T2) l m = eqq M2 c l m) ∧ (dv2 = s2 * dt c M2) ∧ (mn M2 c c c ≠ 0) ∧ (Wd dv2 1048704) ∧ (Wd ((1:Int)) 2)) ?_ ?_
      ·
        refine wSq ?_
        by_cases hac:a = c
        ·
          refine wreg (wmv rfl rfl ?_)
          refine wmv rfl rfl ?_
          refine wbt rfl rfl rfl rfl (bNe (neF (by omega))) ?_
          refine wn1 ?_
          refine wF (ev rfl rfl) ?_
          refine wSk (tNo ?_)
          exact ⟨_,_,_,_,_,dv,_,_,_,_,_,_,aSs ⟨rfl,rfl,rfl,rfl,rfl,rfl,trivial⟩,hS.pick [0,1,2,3,4] (by decide) rfl,hDS,hTlen,hTrow,hE,hdv,by have h9:=piv_ne hDS.lead hve hze; rw [hac] at h9; exact h9,(hkdz).mono (by omega),wd1⟩
        refine wreg (wmv rfl rfl ?_)
        refine wmv rfl rfl ?_
        refine wbt rfl rfl rfl rfl (bNe (neT (by omega))) ?_
        refine wn1 ?_
        refine wT (ev rfl rfl) ?_
        refine wSq ?_
        obtain ⟨gt12,hgt12⟩:=hS.lstPtr 4 rfl (by omega)
        obtain ⟨⟨pu,cu,Lu⟩,hTu⟩:∃ r,(T)[c]? = some r:=⟨_,List.getElem?_eq_getElem (by omega)⟩
        have hlu:Lu.length = n:=fq_len rfl hTrow hTu
        obtain ⟨gu,hgu⟩:=hS.frp 4 rfl hTu (by omega)
        refine wSg 13 [56,57,58,59,60,61,62,63,64,65,66,67,68] [[],[],[],[],[],[],[4,5],[6,4,5],[],[],[8,9],[10,8,9],[0,1,4,5,6,7,8,9,10,11]] [] [2,3] [] (fun i9 => ([iSv (.slice pX n cX),iSv (.int .i64 (a:Int)),iSv (.slice pX n cX),iSv (.int .i64 (c:Int)),iSv (.slice pX n cX),iSv (.int .i64 (c:Int)),iSv (.pointer (some ⟨gt12,(0 + c * 1),none⟩)),iSv (.slice pu Lu.length cu),iSv (.slice pX n cX),iSv (.int .i64 (a:Int)),iSv (.pointer (some ⟨gt12,(0 + a * 1),none⟩)),iSv (.slice pr Lr.length cr),iSv (.pointer (some ⟨gt12,(0 + a * 1),none⟩))]:List (List Value → Tell)).getD i9 (fun _ _ _ => False)) hNi (fun d _ _ _ _ h => (by cases d <;> exact h)) (by kernel_rfl) (by kernel_rfl) (by kernel_rfl) hS ?_ ?_
        ·
          refine stM rfl rfl rfl rfl rfl (fun _=>isI) ?_
          refine stM rfl rfl rfl rfl rfl (fun _=>isI) ?_
          refine stepsPure rfl ?_ ?_
          · intro f' ρ ho hT
            exact ⟨_,.inl ⟨wNo rfl,fun w hw => ymove (v:=.slice pX n cX) rfl (ev rfl (ho 3 rfl)) w⟩,isI⟩
          refine stepsPure rfl ?_ ?_
          · intro f' ρ ho hT
            exact ⟨_,.inl ⟨wNo rfl,fun w hw => ymove (v:=.int .i64 (c:Int)) rfl (ev rfl (ho 7 rfl)) w⟩,isI⟩
          refine stM rfl rfl rfl rfl rfl (fun _=>isI) ?_
          refine stM rfl rfl rfl rfl rfl (fun _=>isI) ?_
          refine stT rfl (fun hT hS=>?_) ?_
          · obtain ⟨hv4,hr4⟩:=hT 4 60 rfl rfl
            obtain ⟨hv5,hr5⟩:=hT 5 61 rfl rfl
            obtain hS:=hS.flat2 hr4 hr5
            exact inNo rfl (oIx (p:=pX) (g:=gt12) (off:=0) (m:=n) (k:=c) (j:=(0 + c * 1)) rfl rfl Tryz.runUnderlying47 Tryz.sizeOf39 (ev rfl hv4) hgt12 (ev rfl hv5) (by omega) rfl (nSm rfl isI))
          refine stT rfl (fun hT hS=>?_) ?_
          · obtain ⟨hv6,hr6⟩:=hT 6 62 rfl rfl
            obtain hS:=hS.flat1 hr6
            exact inNo rfl (oLc ⟨Tryz.isAgg39,Tryz.sizeOf39⟩ rfl rfl (ev rfl hv6) (hS.frc 4 rfl hTu hgt12) (nSm rfl isI))
          refine stM rfl rfl rfl rfl rfl (fun _=>isI) ?_
          refine stM rfl rfl rfl rfl rfl (fun _=>isI) ?_
          refine stT rfl (fun hT hS=>?_) ?_
          · obtain ⟨hv8,hr8⟩:=hT 8 64 rfl rfl
            obtain ⟨hv9,hr9⟩:=hT 9 65 rfl rfl
            obtain hS:=hS.flat2 hr8 hr9
            exact inNo rfl (oIx (p:=pX) (g:=gt12) (off:=0) (m:=n) (k:=a) (j:=(0 + a * 1)) rfl rfl Tryz.runUnderlying47 Tryz.sizeOf39 (ev rfl hv8) hgt12 (ev rfl hv9) (by omega) rfl (nSm rfl isI))
          refine stT rfl (fun hT hS=>?_) ?_
          · obtain ⟨hv10,hr10⟩:=hT 10 66 rfl rfl
            obtain hS:=hS.flat1 hr10
            exact inNo rfl (oLc ⟨Tryz.isAgg39,Tryz.sizeOf39⟩ rfl rfl (ev rfl hv10) (hS.frc 4 rfl hTr hgt12) (nSm rfl isI))
          refine stT rfl (fun hT hS=>?_) ?_
          · obtain ⟨hv0,hr0⟩:=hT 0 56 rfl rfl
            obtain ⟨hv1,hr1⟩:=hT 1 57 rfl rfl
            obtain hS:=hS.flat2 hr0 hr1
            exact inNo rfl (oIx (p:=pX) (g:=gt12) (off:=0) (m:=n) (k:=a) (j:=(0 + a * 1)) rfl rfl Tryz.runUnderlying47 Tryz.sizeOf39 (ev rfl hv0) hgt12 (ev rfl hv1) (by omega) rfl (nSm rfl isI))
          exact sNi
        intro vs ρ w13 f' hf hT hS
        obtain ⟨hv0,hr0⟩:=hT 0 (by decide)
        obtain ⟨hv1,hr1⟩:=hT 1 (by decide)
        obtain ⟨hv2,hr2⟩:=hT 2 (by decide)
        obtain ⟨hv3,hr3⟩:=hT 3 (by decide)
        obtain ⟨hv4,hr4⟩:=hT 4 (by decide)
        obtain ⟨hv5,hr5⟩:=hT 5 (by decide)
        obtain ⟨hv6,hr6⟩:=hT 6 (by decide)
        obtain ⟨hv7,hr7⟩:=hT 7 (by decide)
        obtain ⟨hv8,hr8⟩:=hT 8 (by decide)
        obtain ⟨hv9,hr9⟩:=hT 9 (by decide)
        obtain ⟨hv10,hr10⟩:=hT 10 (by decide)
        obtain ⟨hv11,hr11⟩:=hT 11 (by decide)
        obtain ⟨hv12,hr12⟩:=hT 12 (by decide)
        simp only [pool,if_true,hr0,hr1,hr2,hr3,hr4,hr5,hr6,hr7,hr8,hr9,hr10,hr11,hr12,List.nil_append,List.cons_append,List.append_nil] at hS
        simp only [layf,hv0,hv1,hv2,hv3,hv4,hv5,hv6,hv7,hv8,hv9,hv10,hv11,hv12] at hf
        subst hf; clear hT hv0 hv1 hv2 hv3 hv4 hv5 hv6 hv7 hv8 hv9 hv10 hv11 hv12 hr0 hr1 hr2 hr3 hr4 hr5 hr6 hr7 hr8 hr9 hr10 hr11 hr12
        obtain hS:=(show Sep w [.lst 39 1 pX n cX (ftE T),.blk g5 [.bool (ng dv),.slice pdz ndz cdz,.bool (ng ((1:Int))),.slice pdo ndo cdo] 43,.rowm pdz ndz cdz (lim dv.natAbs),.rowm pdo ndo cdo (lim ((1:Int)).natAbs),.blk g1 [.bool false,.slice none 0 0,.bool false,.slice none 0 0] 43] w13 from hS.pick [4,0,1,2,3] (by decide) rfl)
        obtain hS:=hS.ftake2 hTr hTu (by omega) hlr hlu
        obtain hS:=(show Sep w [.lst 43 4 pu n cu (fqs Lu),.lst 39 1 pX n cX (((ftE T).set a ⟨[.slice pr n cr],[]⟩).set c ⟨[.slice pu n cu],[]⟩),.lst 43 4 pr n cr (fqs Lr),.blk g5 [.bool (ng dv),.slice pdz ndz cdz,.bool (ng ((1:Int))),.slice pdo ndo cdo] 43,.rowm pdz ndz cdz (lim dv.natAbs),.rowm pdo ndo cdo (lim ((1:Int)).natAbs),.blk g1 [.bool false,.slice none 0 0,.bool false,.slice none 0 0] 43] w13 from hS.pick [1,2,0,3,4,5,6] (by decide) rfl)
        refine wLt 13 rfl (by kernel_rfl) (ostoreL (i:=a) (g:=gt12) [.slice pu Lu.length cu] [.lst 43 4 pu n cu (fqs Lu)] Tryz.sizeOf39 hS rfl rfl (ev rfl rfl) (ev rfl rfl) (rfl) rfl rfl rfl hgt12 (by omega) rfl ?_)
        clear hS; intro w14 hS
        refine ⟨hNi,?_⟩
        refine wLt 14 rfl (by kernel_rfl) (oIx (p:=pX) (g:=gt12) (off:=0) (m:=n) (k:=c) (j:=(0 + c * 1)) rfl rfl Tryz.runUnderlying47 Tryz.sizeOf39 (ev rfl rfl) hgt12 (ev rfl rfl) (by omega) rfl ?_)
        refine ⟨hNi,?_⟩
        obtain hS:=(show Sep w [.lst 43 4 pr n cr (fqs Lr),.lst 39 1 pX n cX ((((ftE T).set a ⟨[.slice pr n cr],[]⟩).set c ⟨[.slice pu n cu],[]⟩).set a ⟨[.slice pu Lu.length cu],[.lst 43 4 pu n cu (fqs Lu)]⟩),.blk g5 [.bool (ng dv),.slice pdz ndz cdz,.bool (ng ((1:Int))),.slice pdo ndo cdo] 43,.rowm pdz ndz cdz (lim dv.natAbs),.rowm pdo ndo cdo (lim ((1:Int)).natAbs),.blk g1 [.bool false,.slice none 0 0,.bool false,.slice none 0 0] 43] w14 from hS.pick [1,0,2,3,4,5] (by decide) rfl)
        refine wLt 15 rfl (by kernel_rfl) (ostoreL (i:=c) (g:=gt12) [.slice pr Lr.length cr] [.lst 43 4 pr n cr (fqs Lr)] Tryz.sizeOf39 hS rfl rfl (ev rfl rfl) (ev rfl rfl) (rfl) rfl rfl rfl hgt12 (by omega) rfl ?_)
        clear hS; intro w15 hS
        refine ⟨hNi,?_⟩
        refine wdone rfl ?_
        refine tNo ?_
        rw [swap_ft (U:=⟨pu,cu,Lu⟩) (J:=⟨pr,cr,Lr⟩) (by omega) hlu hlr] at hS
        refine wreg (wl rfl (oLd aggR hS 1 rfl rfl (ev rfl rfl) rfl rfl rfl ?_))
        obtain ⟨z4,hz4⟩:∃ z:Int,Hid (RN (-dv) (((1:Int))) = z):=⟨_,rfl⟩
        have hk4:Wd z4 1048704:=Wd.rn (Wd.neg hkdz rfl) hz4
        obtain ⟨z5,hz5⟩:∃ z:Int,Hid (RD (-dv) (((1:Int))) = z):=⟨_,rfl⟩
        have hk5:Wd z5 2:=Wd.rd hkdo hz5
        refine wcl Tryz.call50 (wsneg (((hS.slm 2 rfl).zr hkdz).mono (by omega)) (((hS.slm 3 rfl).zr hkdo).mono (by omega)) ((by decide)) hz4 hz5) (ar1 (ev rfl rfl)) hS ?_
        clear hS; rintro _ _ w16 ⟨p4,n4,c4,p5,n5,c5,rfl,rfl⟩ hS
        refine wl rfl (oSt _ _ Tryz.sizeOf43 hS 3 rfl rfl (ev rfl rfl) (ev rfl rfl) rfl rfl rfl rfl rfl rfl ?_)
        clear hS; intro w17 hS
        refine wn1 ?_
        obtain rfl:(1:Int) = z5:=by rw [← hz5.out,RD_one]
        exact ⟨_,_,_,_,_,z4,_,_,_,_,_,_,aSs ⟨rfl,rfl,rfl,rfl,rfl,rfl,trivial⟩,hS.pick [3,0,1,6,2] (by decide) rfl,hDS.swap (by omega) (by omega),(tab_swap hTlen hTrow hE hTu hTr (by omega) hla).1,(tab_swap hTlen hTrow hE hTu hTr (by omega) hla).2.1,(tab_swap hTlen hTrow hE hTu hTr (by omega) hla).2.2,by rw [swM_lead ha1, ← hz4.out,RN_one,hdv]; grind,by rw [swM_mn ha1,show tr c a c = a by unfold tr; rw [if_pos rfl]]; exact piv_ne hDS.lead hve hze,(hk4).mono (by omega),wd1⟩
      clear hS; rintro _ w12 ⟨fb,M2,V2,s2,T2,dv2,pdz2,ndz2,cdz2,pdo2,ndo2,cdo2,rfl,hS,hDS2,hTlen2,hTrow2,hE2,hdv2,hpiv,hkdz2,hkdo2⟩
      refine wSq ?_
      have hTn2:T2.length = n:=by rw [← ftv_len]; exact hTlen2
      obtain ⟨gt13,hgt13⟩:=hS.lstPtr 4 rfl (by omega)
      obtain ⟨⟨ps,cs,Ls⟩,hTs⟩:∃ r,(T2)[c]? = some r:=⟨_,List.getElem?_eq_getElem (by omega)⟩
      have hls:Ls.length = n:=fq_len rfl hTrow2 hTs
      obtain ⟨gs,hgs⟩:=hS.frp 4 rfl hTs (by omega)
      have hW9:=hDS2.wen hS2 (Nat.le_refl _) (by omega) (Nat.le_refl _) (by omega)
      obtain ⟨⟨pv,nv,cv,qv,mv,dv,zv,yv⟩,hLv⟩:∃ e,Ls[c]? = some e:=⟨_,List.getElem?_eq_getElem (by omega)⟩
      have hvv:=(fq_el rfl hTs hLv).trans (hE2 c c (Nat.le_refl _) (by omega) (Nat.le_refl _) (by omega))
      have hwzv:Wd zv 1048704:=by have h9:=congrArg Prod.fst hvv; simp only at h9; rw [h9]; exact hW9.1
      have hwyv:Wd yv 1048704:=by have h9:=congrArg Prod.snd hvv; simp only at h9; rw [h9]; exact hW9.2
      obtain ⟨z4,hz4⟩:∃ z:Int,Hid (RN (dv2 * zv) (((1:Int)) * yv) = z):=⟨_,rfl⟩
      have hk4:Wd z4 2097408:=Wd.rn (Wd.mul (m:=2097408) hkdz2 hwzv rfl (by omega)) hz4
      obtain ⟨z5,hz5⟩:∃ z:Int,Hid (RD (dv2 * zv) (((1:Int)) * yv) = z):=⟨_,rfl⟩
      have hk5:Wd z5 1048706:=Wd.rd (Wd.mul (m:=1048706) hkdo2 hwyv rfl (by omega)) hz5
      refine wSg 9 [72,73,74,75,76,77,78,79,80] [[],[],[],[1,2],[3,1,2],[],[4,5,1,2,3],[6,1,2,3,4,5],[0,7,1,2,3,4,5,6]] [] [] [] (fun i9 => ([iSv (.agg #[.bool (ng dv2),.slice pdz2 ndz2 cdz2,.bool (ng ((1:Int))),.slice pdo2 ndo2 cdo2]),iSv (.slice pX n cX),iSv (.int .i64 (c:Int)),iSv (.pointer (some ⟨gt13,(0 + c * 1),none⟩)),iSv (.slice ps Ls.length cs),iSv (.int .i64 (c:Int)),iSv (.pointer (some ⟨gs,(0 + c * 4),none⟩)),iSv (.agg #[.bool (ng zv),.slice pv nv cv,.bool (ng yv),.slice qv mv dv]),fun _ => Rrt z4 z5]:List (List Value → Tell)).getD i9 (fun _ _ _ => False)) hNi (fun d _ _ _ _ h => (by cases d <;> exact h)) (by kernel_rfl) (by kernel_rfl) (by kernel_rfl) hS ?_ ?_
      ·
        refine stH rfl (fun ho hS=>?_) ?_
        · exact inNo rfl (oLd aggR hS 0 rfl rfl (ev rfl (ho 6 rfl)) rfl rfl rfl (nSm rfl isI))
        refine stM rfl rfl rfl rfl rfl (fun _=>isI) ?_
        refine stM rfl rfl rfl rfl rfl (fun _=>isI) ?_
        refine stT rfl (fun hT hS=>?_) ?_
        · obtain ⟨hv1,hr1⟩:=hT 1 73 rfl rfl
          obtain ⟨hv2,hr2⟩:=hT 2 74 rfl rfl
          obtain hS:=hS.flat2 hr1 hr2
          exact inNo rfl (oIx (p:=pX) (g:=gt13) (off:=0) (m:=n) (k:=c) (j:=(0 + c * 1)) rfl rfl Tryz.runUnderlying47 Tryz.sizeOf39 (ev rfl hv1) hgt13 (ev rfl hv2) (by omega) rfl (nSm rfl isI))
        refine stT rfl (fun hT hS=>?_) ?_
        · obtain ⟨hv3,hr3⟩:=hT 3 75 rfl rfl
          obtain hS:=hS.flat1 hr3
          exact inNo rfl (oLc ⟨Tryz.isAgg39,Tryz.sizeOf39⟩ rfl rfl (ev rfl hv3) (hS.frc 4 rfl hTs hgt13) (nSm rfl isI))
        refine stM rfl rfl rfl rfl rfl (fun _=>isI) ?_
        refine stT rfl (fun hT hS=>?_) ?_
        · obtain ⟨hv4,hr4⟩:=hT 4 76 rfl rfl
          obtain ⟨hv5,hr5⟩:=hT 5 77 rfl rfl
          obtain hS:=hS.flat2 hr4 hr5
          exact inNo rfl (oIx (p:=ps) (g:=gs) (off:=0) (m:=Ls.length) (k:=c) (j:=(0 + c * 4)) rfl rfl Tryz.runUnderlying39 Tryz.sizeOf43 (ev rfl hv4) hgs (ev rfl hv5) (by omega) rfl (nSm rfl isI))
        refine stT rfl (fun hT hS=>?_) ?_
        · obtain ⟨hv6,hr6⟩:=hT 6 78 rfl rfl
          obtain hS:=hS.flat1 hr6
          exact inNo rfl (oloadA aggR rfl rfl (ev rfl hv6) (hS.fec 4 rfl hTs hLv hgs) rfl (nSm rfl isI))
        refine stT rfl (fun hT hS=>?_) ?_
        · obtain ⟨hv0,hr0⟩:=hT 0 72 rfl rfl
          obtain ⟨hv7,hr7⟩:=hT 7 79 rfl rfl
          obtain hS:=hS.flat2 hr0 hr7
          exact .inl ⟨wNo rfl,oCl rfl rfl Tryz.call51 rfl (wsmul (((hS.slm 1 rfl).zr hkdz2).mono (by omega)) (((hS.slm 2 rfl).zr hkdo2).mono (by omega)) ((hS.fez 4 rfl hTs hLv hwzv).mono (by omega)) ((hS.fed 4 rfl hTs hLv hwyv).mono (by omega)) ((by decide)) (eq_den hDS2.lead hvv) hz4 hz5) (ar2 (ev rfl hv0) (ev rfl hv7)) cNw⟩
        exact sNi
      intro vs ρ w14 f' hf hT hS
      obtain ⟨hv0,hr0⟩:=hT 0 (by decide)
      obtain ⟨hv1,hr1⟩:=hT 1 (by decide)
      obtain ⟨hv2,hr2⟩:=hT 2 (by decide)
      obtain ⟨hv3,hr3⟩:=hT 3 (by decide)
      obtain ⟨hv4,hr4⟩:=hT 4 (by decide)
      obtain ⟨hv5,hr5⟩:=hT 5 (by decide)
      obtain ⟨hv6,hr6⟩:=hT 6 (by decide)
      obtain ⟨hv7,hr7⟩:=hT 7 (by decide)
      obtain ⟨p4,n4,c4,p5,n5,c5,hv8,hr8⟩:=(hT 8 (by decide):(Rrt z4 z5) _ _)
      simp only [pool,if_true,hr0,hr1,hr2,hr3,hr4,hr5,hr6,hr7,hr8,List.nil_append,List.cons_append,List.append_nil] at hS
      simp only [layf,hv0,hv1,hv2,hv3,hv4,hv5,hv6,hv7,hv8] at hf
      subst hf; clear hT hv0 hv1 hv2 hv3 hv4 hv5 hv6 hv7 hv8 hr0 hr1 hr2 hr3 hr4 hr5 hr6 hr7 hr8
      refine wLt 9 rfl (by kernel_rfl) (oSt _ _ Tryz.sizeOf43 hS 2 rfl rfl (ev rfl rfl) (ev rfl rfl) rfl rfl rfl rfl rfl rfl ?_)
      clear hS; intro w15 hS
      refine ⟨hNi,?_⟩
      refine wdone rfl ?_
      refine tNo ?_
      obtain ⟨hd1,hd2⟩:=d_step hDS2.lead hdv2 hvv
      obtain rfl:(1:Int) = z5:=by rw [← hz5.out]; exact hd2.symm
      have hdz4:z4 = s2 * dt (c + 1) M2:=by rw [← hz4.out]; exact hd1
      have hk5:=wd1
      obtain hS:=(show Sep w [.rowm p4 n4 c4 (lim z4.natAbs),.rowm p5 n5 c5 (lim (1:Int).natAbs),.blk g5 [.bool (ng z4),.slice p4 n4 c4,.bool (ng 1),.slice p5 n5 c5] 43,.blk g1 [.bool false,.slice none 0 0,.bool false,.slice none 0 0] 43,.lst 39 1 pX n cX (ftE T2)] w15 from hS.pick [0,1,2,5,6] (by decide) rfl)
      refine wdet_l rfl hDS2 hS2 hn hlc hTlen2 hTrow2 hE2 hpiv hS ⟨rfl,rfl,rfl,rfl,rfl,rfl,trivial⟩ (fun d _ _ _ _ h => (by cases d <;> exact h)) ?_
      clear hS; rintro _ w16 ⟨fb,T3,rfl,hS,hF⟩
      refine blkN (tNo (wreg (wbc (z:=.int .i64 ((c + 1:Nat):Int)) rfl rfl (bAd (wI6 (by omega) (by omega))) ?_)))
      refine wmv rfl rfl ?_
      refine wn1 ?_
      exact ⟨(c + 1),⟨_,_,_,_,_,z4,_,_,_,_,_,_,aSs ⟨rfl,rfl,rfl,rfl,rfl,trivial⟩,hS.pick [2,0,1,3,4] (by decide) rfl,by omega,hDS2.step hpiv,hF.len,hF.row,fun k m h1 h2 h3 h4 => by rw [hF.ent k m h2 h4,if_pos (by omega)]; unfold fF; rw [if_neg (by omega)]; exact eqq_step hDS2.lead hpiv,hdz4,by rw [hdz4]; exact (hDS2.step hpiv).wdv hS2 (by omega),wd1⟩,by omega⟩
    refine wreg (wmv rfl rfl ?_)
    refine wmv rfl rfl ?_
    refine wl rfl (olen rfl rfl rfl Tryz.runUnderlying47 (p:=pX) (k:=n) (m:=cX) (ev rfl rfl) ?_)
    refine wbt rfl rfl rfl rfl (bLs (decide_eq_false (by omega))) ?_
    refine wmv rfl rfl ?_
    refine wlOff (e:=35) (d:=36) (b':=false) rfl rfl rfl rfl rfl rfl ?_
    refine wlOff (e:=35) (d:=37) (b':=false) rfl rfl rfl rfl rfl rfl ?_
    refine wlOff (e:=35) (d:=38) (b':=false) rfl rfl rfl rfl rfl rfl ?_
    refine wlOff (e:=35) (d:=39) (b':=false) rfl rfl rfl rfl rfl rfl ?_
    refine wlOff (e:=35) (d:=40) (b':=false) rfl rfl rfl rfl rfl rfl ?_
    refine wlOff (e:=35) (d:=41) (b':=false) rfl rfl rfl rfl rfl rfl ?_
    refine wlOff (e:=35) (d:=42) (b':=false) rfl rfl rfl rfl rfl rfl ?_
    refine wlOff (e:=35) (d:=43) (b':=false) rfl rfl rfl rfl rfl rfl ?_
    refine wlOff (e:=35) (d:=44) (b':=false) rfl rfl rfl rfl rfl rfl ?_
    refine wl rfl (opick rfl rfl (ev rfl rfl) evc ?_)
    refine wn1 ?_
    refine wF (ev rfl rfl) ?_
    refine wEx ?_
    refine tEx ?_
    refine tEx ?_
    refine blkE ?_
    refine tNo (wSq (wsr (wmv rfl rfl ?_)))
    refine wmv rfl rfl ?_
    refine wl rfl (olen rfl rfl rfl Tryz.runUnderlying47 (p:=pX) (k:=n) (m:=cX) (ev rfl rfl) ?_)
    refine wbt rfl rfl rfl rfl (bEq (eqT (by omega))) ?_
    refine wn1 ?_
    refine wT (ev rfl rfl) ?_
    refine wSq ?_
    have hd0:=hDS.none hlc fun i h1 h2 => hz i h1 (by omega)
    refine wreg ?_
    have hk3:Wd 0 2:=Wd.i64 (by omega) (by omega)
    have hk4:Wd 1 2:=Wd.i64 (by omega) (by omega)
    refine wcl Tryz.call48 (wsof (x:=0) (by omega) (by omega)) (ar1 evc) hS ?_
    clear hS; rintro _ _ w10 ⟨p3,n3,c3,p4,n4,c4,rfl,rfl⟩ hS
    refine wl rfl (oSt _ _ Tryz.sizeOf43 hS 5 rfl rfl (ev rfl rfl) (ev rfl rfl) rfl rfl rfl rfl rfl rfl ?_)
    clear hS; intro w11 hS
    refine wn1 ?_
    refine wLv ?_
    refine thenR ?_
    refine blkR ?_
    refine thenR ?_
    refine thenR ?_
    refine blkR ?_
    refine thenR ?_
    refine wr1 Tryz.results15 (tellC (cs:=[.bool (ng 0),.slice p3 n3 c3,.bool (ng 1),.slice p4 n4 c4]) aggR hS 5 rfl rfl rfl rfl) ?_
    rw [hd0]
    exact ⟨_,_,rfl,⟨_,_,_,_,_,_,rfl,rfl⟩,hS.newM [0,1] (by decide) rfl rfl⟩
  refine wreg (wbt rfl rfl rfl rfl (bLs (decide_eq_false (by omega))) ?_)
  refine wn1 (wSq ?_)
  refine wF (ev rfl rfl) ?_
  refine wEx ?_
  refine tEx ?_
  refine tEx ?_
  refine blkE ?_
  refine tNo (wSq ?_)
  have hcn:n = c:=by omega
  subst hcn
  have hdn:dv = dt n N:=by rw [hdv]; exact hDS.det
  refine wreg (wl rfl (oLd aggR hS 0 rfl rfl (ev rfl rfl) rfl rfl rfl ?_))
  refine wl rfl (oSt _ _ Tryz.sizeOf43 hS 3 rfl rfl (ev rfl rfl) (ev rfl rfl) rfl rfl rfl rfl rfl rfl ?_)
  clear hS; intro w9 hS
  refine wn1 ?_
  refine wLv ?_
  refine wr1 Tryz.results15 (tellC (cs:=[.bool (ng dv),.slice pdz ndz cdz,.bool (ng ((1:Int))),.slice pdo ndo cdo]) aggR hS 3 rfl rfl rfl rfl) ?_
  rw [← hdn]
  exact ⟨_,_,rfl,⟨_,_,_,_,_,_,rfl,rfl⟩,hS.newM [1,2] (by decide) rfl rfl⟩
open Go.RowKit
theorem Sl.nrI {w:World} {p:Option Addr} {n c:Nat} {z:Int} (h:Sl w p n c (lim z.natAbs)):Nr w p n c z.natAbs n:=⟨_,h,vLm _,Nat.le_refl _⟩
theorem cmpN_gtF {a b:Nat} {s:Int} (h:Hid (cmpN a b = s)) (hab:a ≤ b):decide (0 < s) = false:=by
  have h1:=h.out
  unfold cmpN at h1
  refine decide_eq_false ?_
  split at h1
  · omega
  split at h1 <;> omega
theorem cmpN_leT {a b:Nat} {s:Int} (h:Hid (cmpN a b = s)) (hab:a ≤ b):decide (s ≤ 0) = true:=by
  have h1:=h.out
  unfold cmpN at h1
  refine decide_eq_true ?_
  split at h1
  · omega
  split at h1 <;> omega
theorem izs_dls {L:List Iq} {d:Nat → Int} {m j:Nat} {e:Iq} (h:izs L = dls d 0 m) (hj:j < m) (he:L[j]? = some e):e.z = d j:=by
  have h1:=izs_get he
  rw [h,dls_get hj,Nat.zero_add] at h1
  exact (Option.some.inj h1).symm
end Go.Proofs.YtnlnibngpeempaaGreatDoor
