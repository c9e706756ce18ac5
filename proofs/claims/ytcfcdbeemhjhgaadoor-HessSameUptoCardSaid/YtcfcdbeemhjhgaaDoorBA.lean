/-
  Contracts and lemmas, joined in one text.
-/
import Derived.Laws.BitsAllLaws
import Derived.Test.YtcfcdbeemhjhgaaDoorRows
import Derived.WalkKit
import Derived.WalkSpells
import Derived.WalkLawsBesides
import Derived.Lib.Hide
import Derived.Laws.CopyOwn
import Derived.Lib.Strings
import Derived.Lib.Slices
import Derived.Lib.Small
import Derived.Lib.Walk
import Derived.Lib.BitFns
set_option linter.unusedVariables false
set_option linter.unusedSimpArgs false
/-
  Plain facts on numbers written in limbs of 32 bits: no program in sight.
-/
namespace Go.Proofs.YtcfcdbeemhjhgaaDoor
def nd (xs:List Nat) (i:Nat):Nat:=xs.getD i 0
def sm (f:Nat → Nat):Nat → Nat
  | 0 => 0
  | k + 1 => sm f k + f k * 4294967296 ^ k
def val (xs:List Nat):Nat:=sm (nd xs) xs.length
def tl (xs:List Nat):Nat → Nat
  | 0 => 0
  | k + 1 => if nd xs k = 0 then tl xs k else k + 1
def ll (n:Nat):Nat:=if n = 0 then 0 else n.log2 / 32 + 1
def lim (n:Nat):List Nat:=(List.range (ll n)).map fun i => n / 4294967296 ^ i % 4294967296
theorem nd_lt_len {xs:List Nat} {i:Nat} (h:xs.length ≤ i):nd xs i = 0:=by
  unfold nd; rw [List.getD_eq_getElem?_getD,List.getElem?_eq_none h]; rfl
theorem nd_get {xs:List Nat} {i:Nat} (h:i < xs.length):nd xs i = xs[i]:=by
  unfold nd; rw [List.getD_eq_getElem?_getD,List.getElem?_eq_getElem h]; rfl
theorem nd_set (xs:List Nat) (i v j:Nat) (h:i < xs.length):nd (xs.set i v) j = if j = i then v else nd xs j:=by
  unfold nd
  rw [List.getD_eq_getElem?_getD,List.getD_eq_getElem?_getD,List.getElem?_set]
  by_cases e:i = j
  · subst e; simp [h]
  · rw [if_neg e,if_neg (fun h => e h.symm)]
theorem nd_append (xs ys:List Nat) (i:Nat):nd (xs ++ ys) i = if i < xs.length then nd xs i else nd ys (i - xs.length):=by
  unfold nd
  rw [List.getD_eq_getElem?_getD,List.getD_eq_getElem?_getD,List.getD_eq_getElem?_getD,List.getElem?_append]
  split <;> rfl
theorem nd_take (xs:List Nat) (k i:Nat):nd (xs.take k) i = if i < k then nd xs i else 0:=by
  unfold nd
  rw [List.getD_eq_getElem?_getD,List.getD_eq_getElem?_getD,List.getElem?_take]
  split <;> rfl
theorem nd_drop (xs:List Nat) (k i:Nat):nd (xs.drop k) i = nd xs (k + i):=by
  unfold nd
  rw [List.getD_eq_getElem?_getD,List.getD_eq_getElem?_getD,List.getElem?_drop]
theorem nd_replicate (n i:Nat):nd (List.replicate n 0) i = 0:=by
  unfold nd
  rw [List.getD_eq_getElem?_getD,List.getElem?_replicate]
  split <;> rfl
theorem nd_ext {xs ys:List Nat} (hl:xs.length = ys.length) (h:∀ i,i < xs.length → nd xs i = nd ys i):xs = ys:=by
  apply List.ext_getElem hl
  intro i h1 h2
  have:=h i h1
  rwa [nd_get h1,nd_get h2] at this
theorem sm_lt {f:Nat → Nat}:∀ {k:Nat},(∀ i,i < k → f i < 4294967296) → sm f k < 4294967296 ^ k
 | 0,_ => by simp [sm]
 | k + 1,h => by
  have h1:=sm_lt (f:=f) (k:=k) (fun i hi => h i (by omega))
  have h2:=h k (by omega)
  unfold sm
  rw [Nat.pow_succ]
  have h3:f k * 4294967296 ^ k ≤ 4294967295 * 4294967296 ^ k:=Nat.mul_le_mul_right _ (by omega)
  omega
theorem sm_more {f:Nat → Nat} {k:Nat}:∀ (m:Nat),(∀ i,k ≤ i → i < k + m → f i = 0) → sm f (k + m) = sm f k
 | 0,_ => rfl
 | m + 1,h => by
  rw [← Nat.add_assoc]
  show sm f (k + m) + f (k + m) * _ = _
  rw [sm_more m (fun i h1 h2 => h i h1 (by omega)),h (k + m) (by omega) (by omega)]; simp
theorem pos_pow (k:Nat):0 < 4294967296 ^ k:=Nat.pow_pos (by omega)
theorem tl_le (xs:List Nat):∀ k,tl xs k ≤ k
  | 0 => Nat.le_refl _
  | k + 1 => by unfold tl; split; exact Nat.le_succ_of_le (tl_le xs k); exact Nat.le_refl _
theorem tl_zero (xs:List Nat):∀ k i,tl xs k ≤ i → i < k → nd xs i = 0
 | 0,_,_,h => by omega
 | k + 1,i,h1,h2 => by
  unfold tl at h1
  split at h1
  ·by_cases e:i = k
   ·subst e; assumption
   ·exact tl_zero xs k i h1 (by omega)
  ·omega
theorem tl_top (xs:List Nat):∀ k,0 < tl xs k → nd xs (tl xs k - 1) ≠ 0
 | 0,h => by simp [tl] at h
 | k + 1,h => by
  unfold tl at h ⊢
  split
  ·rename_i e; rw [if_pos e] at h; exact tl_top xs k h
  ·simpa using ‹¬ _›
theorem sm_tl (xs:List Nat) (k:Nat):sm (nd xs) (tl xs k) = sm (nd xs) k:=by
  have h1:=tl_le xs k
  obtain ⟨m,hm⟩:=Nat.exists_eq_add_of_le h1
  have h2:sm (nd xs) (tl xs k + m) = sm (nd xs) (tl xs k):=sm_more m (fun i a b => tl_zero xs k i a (by omega))
  rw [← hm] at h2
  exact h2.symm
theorem pow_le {a b:Nat} (h:a ≤ b):4294967296 ^ a ≤ 4294967296 ^ b:=Nat.pow_le_pow_right (by omega) h
theorem pow_two (k:Nat):4294967296 ^ k = 2 ^ (32 * k):=by
  rw [show (4294967296:Nat) = 2 ^ 32 from rfl, ← Nat.pow_mul]
theorem lt_ll (n:Nat):n < 4294967296 ^ ll n:=by
 unfold ll
 split
 ·omega
 ·rename_i h
  rw [pow_two]
  exact Nat.lt_of_lt_of_le (Nat.lt_log2_self (n:=n)) (Nat.pow_le_pow_right (by omega) (by omega))
theorem ll_le {n k:Nat} (h:n < 4294967296 ^ k):ll n ≤ k:=by
 unfold ll
 split
 ·omega
 ·rename_i h0
  rw [pow_two] at h
  have:=(Nat.log2_lt h0).2 h
  omega
theorem le_ll {n k:Nat} (h:4294967296 ^ k ≤ n):k < ll n:=by
 have h1:=lt_ll n
 by_cases h2:k < ll n
 ·exact h2
 ·have:=pow_le (show ll n ≤ k by omega)
  omega
theorem ll_mono {m n:Nat} (h:m ≤ n):ll m ≤ ll n:=ll_le (Nat.lt_of_le_of_lt h (lt_ll n))
theorem ll_eq {n k:Nat} (h1:n < 4294967296 ^ (k + 1)) (h2:4294967296 ^ k ≤ n):ll n = k + 1:=by
  have:=ll_le h1
  have:=le_ll h2
  omega
theorem length_lim (n:Nat):(lim n).length = ll n:=by simp [lim]
theorem nd_lim (n i:Nat):nd (lim n) i = n / 4294967296 ^ i % 4294967296:=by
 by_cases h:i < ll n
 ·unfold nd lim
  simp [h]
 ·rw [nd_lt_len (by rw [length_lim]; omega)]
  have h1:=lt_ll n
  have h2:=pow_le (show ll n ≤ i by omega)
  rw [Nat.div_eq_of_lt (by omega)]
theorem lim_lt (n i:Nat):nd (lim n) i < 4294967296:=by rw [nd_lim]; exact Nat.mod_lt _ (by omega)
theorem sm_lim (n:Nat):∀ k,sm (nd (lim n)) k = n % 4294967296 ^ k
 | 0 => by simp [sm,Nat.mod_one]
 | k + 1 => by
  show sm _ k + nd (lim n) k * _ = _
  rw [sm_lim n k,nd_lim,Nat.pow_succ,Nat.mod_mul,Nat.mul_comm (n / _ % _)]
theorem val_lim (n:Nat):val (lim n) = n:=by
  unfold val
  rw [sm_lim,length_lim,Nat.mod_eq_of_lt (lt_ll n)]
def Lims (xs:List Nat):Prop := ∀ i,i < xs.length → nd xs i < 4294967296
theorem Lims.all {xs:List Nat} (h:Lims xs) (i:Nat):nd xs i < 4294967296:=by
  by_cases hi:i < xs.length
  · exact h i hi
  · rw [nd_lt_len (by omega)]; omega
theorem lims_lim (n:Nat):Lims (lim n):=fun i _ => lim_lt n i
theorem tl_ll {xs:List Nat} (h:Lims xs):tl xs xs.length = ll (val xs):=by
 have h1:=tl_le xs xs.length
 have h2:=sm_tl xs xs.length
 have h3:sm (nd xs) (tl xs xs.length) < 4294967296 ^ (tl xs xs.length):=sm_lt (fun i _ => h.all i)
 have h4:=ll_le h3
 rw [h2] at h4
 by_cases h0:tl xs xs.length = 0
 ·have:ll (val xs) ≤ 0:=by rw [← h0]; exact h4
  omega
 ·have h5:=tl_top xs xs.length (by omega)
  obtain ⟨t,ht⟩:∃ t,tl xs xs.length = t + 1:=⟨tl xs xs.length - 1,by omega⟩
  rw [ht] at h2 h4 h5 ⊢
  have h6:4294967296 ^ t ≤ sm (nd xs) (t + 1):=by
   show _ ≤ sm _ t + nd xs t * _
   have:1 * 4294967296 ^ t ≤ nd xs t * 4294967296 ^ t:=Nat.mul_le_mul_right _ (by simp at h5; omega)
   omega
  rw [h2] at h6
  have h7:=le_ll h6
  show t + 1 = ll (val xs)
  have:ll (val xs) ≤ t + 1:=h4
  have:t < ll (val xs):=h7
  omega
theorem Lims.take {xs:List Nat} (h:Lims xs) (k:Nat):Lims (xs.take k):=by
  intro i _; rw [nd_take]; split
  · exact h.all i
  · omega
theorem Lims.drop {xs:List Nat} (h:Lims xs) (k:Nat):Lims (xs.drop k):=by
  intro i _; rw [nd_drop]; exact h.all _
theorem Lims.append {xs ys:List Nat} (h:Lims xs) (k:Lims ys):Lims (xs ++ ys):=by
  intro i _; rw [nd_append]; split
  · exact h.all i
  · exact k.all _
theorem Lims.set {xs:List Nat} (h:Lims xs) (i:Nat) {v:Nat} (hv:v < 4294967296):Lims (xs.set i v):=by
 intro j hj
 have hj':j < xs.length:=by simpa using hj
 by_cases e:i < xs.length
 ·rw [nd_set _ _ _ _ e]; split
  ·exact hv
  ·exact h.all j
 ·rw [List.set_eq_of_length_le (by omega)]; exact h.all j
theorem lims_nil:Lims []:=fun i h => by simp at h
theorem lims_zeros (n:Nat):Lims (List.replicate n 0):=by
  intro i _; rw [nd_replicate]; omega
def cmpN (a b:Nat):Int:=if a < b then -1 else if a = b then 0 else 1
end Go.Proofs.YtcfcdbeemhjhgaaDoor
/-
  More plain facts on limbs: comparing.
-/
namespace Go.Proofs.YtcfcdbeemhjhgaaDoor
theorem mul_bd {x y:Nat} (hx:x < 4294967296) (hy:y < 4294967296):x * y ≤ 18446744065119617025:=by
  have h1:x * y ≤ 4294967295 * 4294967295:=Nat.mul_le_mul (by omega) (by omega)
  omega
end Go.Proofs.YtcfcdbeemhjhgaaDoor
/-
  Plain facts: or as a sum; short division; shifts.
-/
namespace Go.Proofs.YtcfcdbeemhjhgaaDoor
end Go.Proofs.YtcfcdbeemhjhgaaDoor
/-
  Words for slices of 32-bit limbs in memory,and laws for the walk that make and fill them.
-/
namespace Go.Proofs.YtcfcdbeemhjhgaaDoor
open Go.RowKit
structure Sl (w:World) (p:Option Addr) (n c:Nat) (xs:List Nat):Prop where
  len:xs.length = n
  le:n ≤ c
  cap:c ≤ maxLen
  lims:Lims xs
  isnil:p = none → c = 0
  cell:∀ i,i < n → ∃ b off,p = some ⟨b,off,none⟩ ∧ w.cell? ⟨b,off + i,none⟩ = some (.int .u32 ((nd xs i:Nat):Int))
theorem Sl.drop {w:World} {b off n c:Nat} {xs:List Nat} (h:Sl w (some ⟨b,off,none⟩) n c xs) {q:Nat} (hq:q ≤ n):Sl w (some ⟨b,off + q,none⟩) (n - q) (c - q) (xs.drop q):=by
  refine ⟨by simp [h.len],by have:=h.le; omega,by have:=h.cap; omega,h.lims.drop q,(fun h => by cases h),fun i hi => ?_⟩
  obtain ⟨b',off',hp,hc⟩:=h.cell (q + i) (by omega)
  simp only [Option.some.injEq,Addr.mk.injEq,and_true] at hp
  obtain ⟨rfl,rfl⟩:=hp
  refine ⟨b,off + q,rfl,?_⟩
  rw [nd_drop,Nat.add_assoc]
  exact hc
structure Fr (B:Nat) (w:World) (p:Option Addr) (n c:Nat) (xs:List Nat):Prop where
  len:xs.length = n
  lims:Lims xs
  own:w.ownsRow B 24 1 (.slice p n c) n (xs.map fun x:Nat => Value.int .u32 (x:Int))
theorem Sl.below {w w':World} {p:Option Addr} {n c:Nat} {xs:List Nat} (h:Sl w p n c xs) {B:Nat} (hb:Below B w w') (hB:w.heap.size ≤ B):Sl w' p n c xs:=by
  refine ⟨h.len,h.le,h.cap,h.lims,h.isnil,fun i hi => ?_⟩
  obtain ⟨b,off,hp,hc⟩:=h.cell i hi
  refine ⟨b,off,hp,?_⟩
  have hlt:=World.block_lt_of_cell? w _ hc
  exact (hb.cell (p:=⟨b,off + i,none⟩) (Nat.lt_of_lt_of_le hlt hB)).trans hc
theorem Sl.back {w w':World} {p:Option Addr} {n c m d:Nat} {xs ys:List Nat} (h:Sl w' p m d ys) (h0:Sl w p n c xs) (hb:Below w.heap.size w w') (hm:m ≤ n):Sl w p m d ys:=by
  refine ⟨h.len,h.le,h.cap,h.lims,h.isnil,fun i hi => ?_⟩
  obtain ⟨b,off,hp,hc⟩:=h.cell i hi
  obtain ⟨b',off',hp',hc'⟩:=h0.cell i (by omega)
  rw [hp] at hp'
  simp only [Option.some.injEq,Addr.mk.injEq,and_true] at hp'
  obtain ⟨rfl,rfl⟩:=hp'
  refine ⟨b,off,hp,?_⟩
  have hlt:=World.block_lt_of_cell? w _ hc'
  rw [← hb.cell (p:=⟨b,off + i,none⟩) hlt]
  exact hc
theorem Sl.lim1 {w:World} {p:Option Addr} {n c:Nat} {xs:List Nat} (h:Sl w p n c xs) (i:Nat):nd xs i < 4294967296:=h.lims.all i
theorem Sl.nil (w:World):Sl w none 0 0 []:=⟨rfl,Nat.le_refl _,by simp [maxLen],lims_nil,fun _ => rfl,fun i hi => by omega⟩
theorem Sl.take {w:World} {p:Option Addr} {n c:Nat} {xs:List Nat} (h:Sl w p n c xs) {k:Nat} (hk:k ≤ n):Sl w p k c (xs.take k):=by
  refine ⟨by simp [h.len]; omega,by have:=h.le; omega,h.cap,h.lims.take k,h.isnil,fun i hi => ?_⟩
  rw [nd_take,if_pos hi]
  exact h.cell i (by omega)
theorem Fr.nil (B:Nat) (w:World):Fr B w none 0 0 []:=⟨rfl,lims_nil,World.ownsRow_nil _ _ _ _⟩
theorem Fr.sl {B:Nat} {w:World} {p:Option Addr} {n c:Nat} {xs:List Nat} (h:Fr B w p n c xs):Sl w p n c xs:=by
 rcases h.own.2 with ⟨h1,h2⟩ | ⟨g,cap,cur,h1,hb,hg,hnc,hcm,hcs,ht⟩
 ·simp only [Value.slice.injEq] at h1
  obtain ⟨rfl,rfl,rfl⟩:=h1
  exact ⟨h.len,Nat.le_refl _,by simp [maxLen],h.lims,fun _ => rfl,fun i hi => by omega⟩
 ·simp only [Value.slice.injEq,true_and] at h1
  obtain ⟨rfl,rfl⟩:=h1
  refine ⟨h.len,hnc,hcm,h.lims,(fun h => by cases h),fun i hi => ⟨g,0,rfl,?_⟩⟩
  have:=h.own.cellAt i (by omega)
  rw [Nat.zero_add,this,nd_get (by rw [h.len]; exact hi)]
  simp [h.len,hi]
theorem Fr.mono {B B':Nat} {w:World} {p:Option Addr} {n c:Nat} {xs:List Nat} (h:Fr B w p n c xs) (hB:B' ≤ B):Fr B' w p n c xs:=by
  refine ⟨h.len,h.lims,h.own.1,?_⟩
  rcases h.own.2 with h1 | ⟨g,cap,cur,h1,hb,r⟩
  · exact .inl h1
  · exact .inr ⟨g,cap,cur,h1,Nat.le_trans hB hb,r⟩
theorem Fr.below {B:Nat} {w w':World} {p:Option Addr} {n c:Nat} {xs:List Nat} (h:Fr B w p n c xs) {B':Nat} (hb:Below B' w w') (hB:w.heap.size ≤ B'):Fr B w' p n c xs:=by
 refine ⟨h.len,h.lims,h.own.1,?_⟩
 rcases h.own.2 with h1 | ⟨g,cap,cur,h1,hbg,hg,r⟩
 ·exact .inl h1
 ·refine .inr ⟨g,cap,cur,h1,hbg,?_,r⟩
  rw [hb.block g (Nat.lt_of_lt_of_le (Array.getElem?_eq_some_iff.1 hg).1 hB)]
  exact hg
theorem Fr.grown {B:Nat} {w w':World} {p:Option Addr} {n c:Nat} {xs:List Nat} (h:Fr B w p n c xs) {row:Option Nat} (hg:w.grownBy w' row) (hne:(Value.slice p n c).ownBlock = none ∨ (Value.slice p n c).ownBlock ≠ row):Fr B w' p n c xs :=
  ⟨h.len,h.lims,h.own.kept hg hne⟩
theorem Fr.pos {B:Nat} {w:World} {p:Option Addr} {n c:Nat} {xs:List Nat} (h:Fr B w p n c xs) (h0:0 < n):∃ g,p = some ⟨g,0,none⟩ ∧ B ≤ g ∧ g < w.heap.size:=by
 rcases h.own.2 with ⟨h1,h2⟩ | ⟨g,cap,cur,h1,hbg,hg,r⟩
 ·omega
 ·simp only [Value.slice.injEq,true_and] at h1
  exact ⟨g,h1.1,hbg,(Array.getElem?_eq_some_iff.1 hg).1⟩
theorem Fr.cellAt {B:Nat} {w:World} {g n c:Nat} {xs:List Nat} (h:Fr B w (some ⟨g,0,none⟩) n c xs) {i:Nat} (hi:i < n):w.cell? ⟨g,i,none⟩ = some (.int .u32 ((nd xs i:Nat):Int)):=by
  obtain ⟨b,off,hp,hc⟩:=h.sl.cell i hi
  simp only [Option.some.injEq,Addr.mk.injEq,and_true] at hp
  obtain ⟨rfl,rfl⟩:=hp
  simpa using hc
theorem Fr.frozenAt {B:Nat} {w:World} {g n c:Nat} {xs:List Nat} (h:Fr B w (some ⟨g,0,none⟩) n c xs) (i:Nat):w.frozen? ⟨g,i,none⟩ = false:=h.own.frozenAt i
theorem Fr.block {B:Nat} {w:World} {g n c:Nat} {xs:List Nat} (h:Fr B w (some ⟨g,0,none⟩) n c xs):B ≤ g ∧ g < w.heap.size:=by
  have:=h.own.lt g rfl
  exact this
theorem Fr.set {B:Nat} {w:World} {g n c:Nat} {xs:List Nat} (h:Fr B w (some ⟨g,0,none⟩) n c xs) (i:Nat) {v:Nat} (hv:v < 4294967296) :
  Fr B (w.setCell ⟨g,i,none⟩ (.int .u32 (v:Int))) (some ⟨g,0,none⟩) n c (xs.set i v):=by
 refine ⟨by rw [List.length_set]; exact h.len,h.lims.set i hv,?_⟩
 have:=(h.own.stored i (.int .u32 (v:Int))).1
 rwa [List.map_set]
theorem Fr.lit {B:Nat} (w:World) (xs:List Nat) (h:Lims xs) (hB:B ≤ w.heap.size) (hl:xs.length ≤ maxLen:=by simp [maxLen]):Fr B (w.alloc (.cells (xs.map fun x:Nat => Value.int .u32 (x:Int)).toArray 24)) (some ⟨w.heap.size,0,none⟩) xs.length xs.length xs:=by
  refine ⟨rfl,h,?_⟩
  have:=World.ownsRow_lit (base:=B) (e:=24) (size:=1) w (xs.map fun x:Nat => Value.int .u32 (x:Int)).toArray xs.length hB hl (by simp)
  simpa using this
def nmax (a b:Nat):Nat:=max a b
theorem Sl.lit (w:World) (xs:List Nat) (h:Lims xs) (hl:xs.length ≤ maxLen:=by simp [maxLen]):Sl (w.alloc (.cells (xs.map fun x:Nat => Value.int .u32 (x:Int)).toArray 24)) (some ⟨w.heap.size,0,none⟩) xs.length xs.length xs:=by
  refine ⟨rfl,Nat.le_refl _,hl,h,(fun h => by cases h),fun i hi => ⟨w.heap.size,0,rfl,?_⟩⟩
  rw [Nat.zero_add,World.cell?_alloc_new,nd_get hi]
  simp [hi]
def RetN (w:World) (xs:List Nat) (e:Ending) (w':World):Prop :=
  ∃ p n c,e = .returned (.slice p n c) ∧ Fr w.heap.size w' p n c xs ∧ Below w.heap.size w w'
def RetInt (w:World) (z:Int) (e:Ending) (w':World):Prop:=e = .returned (.int .i64 z) ∧ Below w.heap.size w w'
def RetNE (w:World) (xs:List Nat) (E:Int) (e:Ending) (w':World):Prop :=
  ∃ p n c,e = .returned (.tuple #[.slice p n c,.int .i64 E]) ∧ Fr w.heap.size w' p n c xs ∧ Below w.heap.size w w'
theorem below_cell {B:Nat} {W w1:World} (hb:Below B W w1):(∀ b o,b < B → w1.cell? ⟨b,o,none⟩ = W.cell? ⟨b,o,none⟩) ∧ (∀ b o,b < B → w1.frozen? ⟨b,o,none⟩ = W.frozen? ⟨b,o,none⟩) :=
  ⟨fun b o h => hb.cell (p:=⟨b,o,none⟩) h,fun b o h => hb.frozen (p:=⟨b,o,none⟩) h⟩
end Go.Proofs.YtcfcdbeemhjhgaaDoor
/-
  The walks of math/bits: Len32,Len64,Len,LeadingZeros32.
-/
namespace Go.Proofs.YtcfcdbeemhjhgaaDoor
open Go.RowKit
def blen (n:Nat):Nat:=if n = 0 then 0 else n.log2 + 1
end Go.Proofs.YtcfcdbeemhjhgaaDoor
/-
  Plain facts: lengths in bits; limbs of what is shifted to the right.
-/
namespace Go.Proofs.YtcfcdbeemhjhgaaDoor
end Go.Proofs.YtcfcdbeemhjhgaaDoor
/-
  Plain facts for the long division: the guess,the multiplication that is taken away,the adding back.
-/
namespace Go.Proofs.YtcfcdbeemhjhgaaDoor
end Go.Proofs.YtcfcdbeemhjhgaaDoor
/-
  Plain facts for one step of the long division.
-/
namespace Go.Proofs.YtcfcdbeemhjhgaaDoor
end Go.Proofs.YtcfcdbeemhjhgaaDoor
/-
  Plain facts on square roots,powers and lengths.
-/
namespace Go.Proofs.YtcfcdbeemhjhgaaDoor
def rt:Nat → Nat
  | 0 => 0
  | n + 1 => if (rt n + 1) * (rt n + 1) ≤ n + 1 then rt n + 1 else rt n
theorem ll_mul (a b:Nat):ll (a * b) ≤ ll a + ll b:=by
  apply ll_le
  rw [Nat.pow_add]
  have h1:=lt_ll a
  have h2:=lt_ll b
  rcases Nat.eq_zero_or_pos b with rfl | hb
  · rw [Nat.mul_zero]; exact Nat.mul_pos (pos_pow _) (pos_pow _)
  · exact Nat.lt_of_lt_of_le (Nat.mul_lt_mul_of_pos_right h1 hb) (Nat.mul_le_mul_left _ (Nat.le_of_lt h2))
theorem ll_add {a b k:Nat} (ha:ll a ≤ k) (hb:ll b ≤ k):ll (a + b) ≤ k + 1:=by
  apply ll_le
  have h1:=lt_ll a
  have h2:=lt_ll b
  have h3:=pow_le ha
  have h4:=pow_le hb
  rw [Nat.pow_succ]
  omega
theorem val_ll {xs:List Nat} (h:Lims xs):ll (val xs) ≤ xs.length:=by rw [← tl_ll h]; exact tl_le _ _
end Go.Proofs.YtcfcdbeemhjhgaaDoor
