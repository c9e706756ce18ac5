/-
  Contracts and lemmas, joined in one text.
-/
import Derived.Test.YtcfcdbeemhjhgaaDoorCB
import Derived.Test.YtcfcdbeemhjhgaaDoorHV
import Derived.Test.YtcfcdbeemhjhgaaDoorCA
import Derived.Test.YtcfcdbeemhjhgaaDoorPrime
set_option linter.unusedVariables false
set_option linter.unusedSimpArgs false
/-
  Hessenberg matrices modulo a prime,plainly: rows and columns are turned at once; the two transforms stay inverse to each other.
-/
set_option maxRecDepth 100000
set_option maxHeartbeats 16000000
namespace Go.Proofs.YtcfcdbeemhjhgaaDoor
open Go.RowKit
def swapR (i k:Nat) (r:List Nat):List Nat:=(r.set i (nd r k)).set k (nd r i)
def swapC (i k:Nat) (M:List (List Nat)):List (List Nat):=M.map (swapR i k)
def addR (p f i k:Nat) (r:List Nat):List Nat:=r.set k ((nd r k + f * nd r i % p) % p)
def addC (p f i k:Nat) (M:List (List Nat)):List (List Nat):=M.map (addR p f i k)
def subM (p f i k:Nat) (M:List (List Nat)):List (List Nat):=M.set i (lessR p f (M.getD i []) (M.getD k []))
structure HS where
  H:List (List Nat)
  S:List (List Nat)
  R:List (List Nat)
def HS.swap (s:HS) (i k:Nat):HS:=⟨swapC i k (swapM s.H i k),swapC i k s.S,swapM s.R i k⟩
def HS.less (s:HS) (p i k f:Nat):HS:=⟨addC p f i k (subM p f i k s.H),addC p f i k s.S,subM p f i k s.R⟩
def HS.elim (s:HS) (p k iv:Nat):Nat → HS
  | 0 => s
  | d + 1 => if nd (((s.elim p k iv d).H).getD (k + 2 + d) []) k = 0 then s.elim p k iv d else (s.elim p k iv d).less p (k + 2 + d) (k + 1) (nd (((s.elim p k iv d).H).getD (k + 2 + d) []) k * iv % p)
def HS.pivot (s:HS) (k i:Nat):HS:=if i = k + 1 then s else s.swap i (k + 1)
def HS.step (s:HS) (p n k:Nat):HS :=
  match firstNZ s.H k (n - (k + 1)) (k + 1) with
  | none => s
  | some i => (s.pivot k i).elim p k (pinv p (nd ((s.pivot k i).H.getD (k + 1) []) k)) (n - (k + 2))
def oneH (n:Nat):List (List Nat):=mkM n n fun i k => if i = k then 1 else 0
def HS.red (p n:Nat) (M:List (List Nat)):Nat → HS
  | 0 => ⟨modM p M,oneH n,oneH n⟩
  | k + 1 => (HS.red p n M k).step p n k
theorem nd_mod {xs:List Nat} {p:Nat} (k:Nat):nd (xs.map (· % p)) k = nd xs k % p:=by
  unfold nd; rw [List.getD,List.getD,List.getElem?_map]; cases xs[k]? <;> simp
theorem swapR_len (i k:Nat) (r:List Nat):(swapR i k r).length = r.length:=by simp [swapR]
theorem swapR_nd {i k:Nat} {r:List Nat} (hi:i < r.length) (hk:k < r.length) (j:Nat):nd (swapR i k r) j = if j = k then nd r i else if j = i then nd r k else nd r j:=by
  unfold swapR
  rw [nd_set _ _ _ _ (by simpa using hk),nd_set _ _ _ _ hi]
theorem addR_len (p f i k:Nat) (r:List Nat):(addR p f i k r).length = r.length:=by simp [addR]
theorem addR_nd {p f i k:Nat} {r:List Nat} (hk:k < r.length) (j:Nat):nd (addR p f i k r) j = if j = k then (nd r k + f * nd r i % p) % p else nd r j:=nd_set _ _ _ _ hk
theorem mapM_len (g:List Nat → List Nat) (M:List (List Nat)):(M.map g).length = M.length:=List.length_map _
theorem mapM_at {g:List Nat → List Nat} {M:List (List Nat)} {l:Nat} (h:l < M.length):(M.map g).getD l [] = g (M.getD l []):=by
  simp [List.getD,List.getElem?_map,List.getElem?_eq_getElem h]
theorem subM_len (p f i k:Nat) (M:List (List Nat)):(subM p f i k M).length = M.length:=List.length_set
theorem subM_at {p f i k:Nat} {M:List (List Nat)} (hi:i < M.length) (l:Nat):(subM p f i k M).getD l [] = if l = i then lessR p f (M.getD i []) (M.getD k []) else M.getD l []:=by
  unfold subM
  by_cases e:l = i
  · subst e; rw [getD_set_self hi,if_pos rfl]
  rw [getD_set_ne (fun h => e h.symm),if_neg e]
section
variable {p n:Nat} {M:List (List Nat)}
theorem lt_nd {r:List Nat} (h:∀ x ∈ r,x < p) (hp:0 < p) (k:Nat):nd r k < p:=by
  by_cases hk:k < r.length
  · rw [nd_get hk]; exact h _ (List.getElem_mem hk)
  rw [nd_lt_len (by omega)]; exact hp
theorem set_lt {r:List Nat} {i v:Nat} (h:∀ x ∈ r,x < p) (hv:v < p):∀ x ∈ r.set i v,x < p:=fun x hx => by
  rcases List.mem_or_eq_of_mem_set hx with hx | rfl
  · exact h x hx
  exact hv
theorem Shp.swapC (h:Shp p n M) (hp:0 < p) (i k:Nat):Shp p n (swapC i k M):=fun r hr => by
  obtain ⟨s,hs,rfl⟩:=List.mem_map.1 hr
  obtain ⟨h1,h2⟩:=h s hs
  exact ⟨by rw [swapR_len]; exact h1,set_lt (set_lt h2 (lt_nd h2 hp _)) (lt_nd h2 hp _)⟩
theorem Shp.addC (h:Shp p n M) (hp:0 < p) (f i k:Nat):Shp p n (addC p f i k M):=fun r hr => by
  obtain ⟨s,hs,rfl⟩:=List.mem_map.1 hr
  obtain ⟨h1,h2⟩:=h s hs
  exact ⟨by rw [addR_len]; exact h1,set_lt h2 (Nat.mod_lt _ hp)⟩
theorem Shp.subM (h:Shp p n M) (hp:0 < p) {f i k:Nat} (hi:i < M.length) (hk:k < M.length):Shp p n (subM p f i k M):=by
  have e:(M.getD i []).length = (M.getD k []).length:=by rw [(h.at hi).1,(h.at hk).1]
  exact h.set i ⟨by rw [lessR_len e]; exact (h.at hi).1,lessR_lt e hp⟩
structure HOk (p n:Nat) (s:HS):Prop where
  hl:s.H.length = n
  sl:s.S.length = n
  rl:s.R.length = n
  hs:Shp p n s.H
  ss:Shp p n s.S
  rs:Shp p n s.R
variable {s:HS}
theorem HOk.swap (h:HOk p n s) (hp:0 < p) {i k:Nat} (hi:i < n) (hk:k < n):HOk p n (s.swap i k) where
  hl:=by show (List.map _ _).length = _; rw [mapM_len,swapM_len,h.hl]
  sl:=by show (List.map _ _).length = _; rw [mapM_len,h.sl]
  rl:=by show (swapM _ _ _).length = _; rw [swapM_len,h.rl]
  hs:=(swapM_shp h.hs (by rw [h.hl]; exact hi) (by rw [h.hl]; exact hk)).swapC hp i k
  ss:=h.ss.swapC hp i k
  rs:=swapM_shp h.rs (by rw [h.rl]; exact hi) (by rw [h.rl]; exact hk)
theorem HOk.less (h:HOk p n s) (hp:0 < p) {i k f:Nat} (hi:i < n) (hk:k < n):HOk p n (s.less p i k f) where
  hl:=by show (List.map _ _).length = _; rw [mapM_len,subM_len,h.hl]
  sl:=by show (List.map _ _).length = _; rw [mapM_len,h.sl]
  rl:=by show (Go.Proofs.YtcfcdbeemhjhgaaDoor.subM _ _ _ _ _).length = _; rw [subM_len,h.rl]
  hs:=(h.hs.subM hp (by rw [h.hl]; exact hi) (by rw [h.hl]; exact hk)).addC hp f i k
  ss:=h.ss.addC hp f i k
  rs:=h.rs.subM hp (by rw [h.rl]; exact hi) (by rw [h.rl]; exact hk)
theorem HOk.elim (h:HOk p n s) (hp:0 < p) {k iv:Nat}:∀ d,d + k + 2 ≤ n → HOk p n (s.elim p k iv d)
 | 0,_ => h
 | d + 1,hd => by
  rw [HS.elim]
  split
  ·exact h.elim hp d (by omega)
  exact (h.elim hp d (by omega)).less hp (by omega) (by omega)
theorem HOk.pivot (h:HOk p n s) (hp:0 < p) {k i:Nat} (hi:i < n) (hk:k + 1 < n):HOk p n (s.pivot k i):=by
  unfold HS.pivot
  split
  · exact h
  exact h.swap hp hi hk
theorem HOk.step (h:HOk p n s) (hp:0 < p) {k:Nat} (hk:k + 2 ≤ n):HOk p n (s.step p n k):=by
 unfold HS.step
 split
 ·exact h
 rename_i i hf
 obtain ⟨f1,f2,f3,f4⟩:=firstNZ_is hf
 exact (h.pivot hp (by omega) (by omega)).elim hp _ (by omega)
theorem oneH_shp (hp:1 < p):Shp p n (oneH n):=fun r hr => by
  obtain ⟨i,hi,rfl⟩:=List.mem_map.1 hr
  refine ⟨rowF_len _ _,fun x hx => ?_⟩
  obtain ⟨j,hj,rfl⟩:=List.mem_map.1 hx
  show (if i = j then 1 else 0) < p
  split <;> omega
theorem oneH_len:(oneH n).length = n:=mkM_len ..
theorem HOk.start (hp:1 < p) (hr:RectM M) (hl:M.length = n) (hq:M.length = colsM M):HOk p n ⟨modM p M,oneH n,oneH n⟩ where
  hl:=by show (modM p M).length = _; rw [modM_len]; exact hl
  sl:=oneH_len
  rl:=oneH_len
  hs:=by have:=hr.shp (p:=p) (by omega); rwa [← hq,hl] at this
  ss:=oneH_shp hp
  rs:=oneH_shp hp
theorem HOk.red (hp:1 < p) (hr:RectM M) (hl:M.length = n) (hq:M.length = colsM M):∀ k,k + 1 ≤ n → HOk p n (HS.red p n M (k - 1))
  | 0,_ => HOk.start hp hr hl hq
  | 1,_ => HOk.start hp hr hl hq
  | k + 2,hk => (HOk.red hp hr hl hq (k + 1) (by omega)).step (by omega) (by show k + 2 ≤ n; omega)
end
def tr (i k x:Nat):Nat:=if x = i then k else if x = k then i else x
section
variable {p n:Nat} {M:List (List Nat)} {i k r c f:Nat}
theorem tr_lt (hi:i < n) (hk:k < n) (h:c < n):tr i k c < n:=by unfold tr; split; exact hk; split; exact hi; exact h
theorem en_swapC (hs:Shp p n M) (hi:i < n) (hk:k < n) (hr:r < M.length):en (swapC i k M) r c = en M r (tr i k c):=by
 have h1:=(hs.at hr).1
 unfold en swapC tr
 rw [mapM_at hr,swapR_nd (by omega) (by omega)]
 by_cases e1:c = k
 ·subst e1
  rw [if_pos rfl]
  by_cases e2:c = i
  ·rw [if_pos e2,e2]
  rw [if_neg e2,if_pos rfl]
 rw [if_neg e1]
 by_cases e2:c = i
 ·rw [if_pos e2,if_pos e2]
 rw [if_neg e2,if_neg e2,if_neg e1]
theorem en_swapM (hi:i < M.length) (hk:k < M.length):en (swapM M i k) r c = en M (tr i k r) c:=by
  rw [en_swap hi hk]
  unfold tr
  split
  · rfl
  split <;> rfl
theorem en_addC (hs:Shp p n M) (hk:k < n) (hr:r < M.length):Em p (en (addC p f i k M) r c) (en M r c + if c = k then (f:Int) * en M r i else 0):=by
 have h1:=(hs.at hr).1
 unfold en addC
 rw [mapM_at hr,addR_nd (by omega)]
 split
 ·rename_i e
  subst e
  refine (Em.md _).trans ?_
  rw [Int.natCast_add, ← Int.natCast_mul]
  exact (Em.rf _).add (Em.md _)
 exact Em.of_eq (by omega)
theorem en_subM (hp:0 < p) (hs:Shp p n M) (hi:i < M.length) (hk:k < M.length) (hc:c < n):Em p (en (subM p f i k M) r c) (en M r c - if r = i then (f:Int) * en M k c else 0):=by
 unfold en
 rw [subM_at hi]
 split
 ·rename_i e
  subst e
  rw [lessR_nd (by rw [(hs.at hi).1,(hs.at hk).1]) (by rw [(hs.at hi).1]; exact hc)]
  exact Em.less hp
 exact Em.of_eq (by omega)
end
def mm (n:Nat) (A B:Nat → Nat → Int):Nat → Nat → Int:=fun i k => su n fun j => A i j * B j k
theorem su_tr {n i k:Nat} (f:Nat → Int) (hi:i < n) (hk:k < n):su n (fun j => f (tr i k j)) = su n f:=by
 by_cases e:i = k
 ·subst e
  exact su_congr fun j _ => by unfold tr; split <;> simp_all
 have h:su n (fun j => f (tr i k j)) = su n fun j => f j + ((if j = i then f k - f i else 0) + if j = k then f i - f k else 0):=su_congr fun j _ => by
  unfold tr
  by_cases e1:j = i
  ·subst e1; rw [if_pos rfl,if_pos rfl,if_neg e]; omega
  rw [if_neg e1,if_neg e1]
  by_cases e2:j = k
  ·subst e2; rw [if_pos rfl,if_pos rfl]; omega
  rw [if_neg e2,if_neg e2]; omega
 rw [h,su_add,su_add,su_one (f:=fun _ => f k - f i) hi,su_one (f:=fun _ => f i - f k) hk]; omega
theorem mm_em {p n:Nat} {A A' B B':Nat → Nat → Int} {i k:Nat} (hA:∀ j,j < n → Em p (A i j) (A' i j)) (hB:∀ j,j < n → Em p (B j k) (B' j k)):Em p (mm n A B i k) (mm n A' B' i k):=su_em fun j hj => (hA j hj).mul (hB j hj)
theorem mm_tr {n i k:Nat} {A B A' B':Nat → Nat → Int} {r c:Nat} (hi:i < n) (hk:k < n) (hA:∀ j,j < n → A' r j = A r (tr i k j)) (hB:∀ j,j < n → B' j c = B (tr i k j) c):mm n A' B' r c = mm n A B r c:=by
  unfold mm
  rw [su_congr fun j hj => by rw [hA j hj,hB j hj]]
  exact su_tr (fun j => A r j * B j c) hi hk
theorem mm_row {p n i k r c:Nat} {f:Int} {A B A':Nat → Nat → Int} (hA:∀ j,j < n → Em p (A' r j) (A r j - if r = i then f * A k j else 0)):Em p (mm n A' B r c) (mm n A B r c - if r = i then f * mm n A B k c else 0):=by
 refine (mm_em (A':=fun r j => A r j - if r = i then f * A k j else 0) (B':=B) hA fun j _ => Em.rf _).trans (Em.of_eq ?_)
 show su n (fun j => (A r j - if r = i then f * A k j else 0) * B j c) = _
 by_cases e:r = i
 ·rw [if_pos e,su_congr (g:=fun j => A r j * B j c + -f * (A k j * B j c)) fun j _ => by rw [if_pos e]; grind,su_add,su_mul]
  show mm n A B r c + -f * mm n A B k c = _
  grind
 rw [if_neg e,su_congr (g:=fun j => A r j * B j c) fun j _ => by rw [if_neg e,Int.sub_zero]]
 show mm n A B r c = _
 omega
theorem mm_col {p n i k r c:Nat} {f:Int} {A B B':Nat → Nat → Int} (hB:∀ j,j < n → Em p (B' j c) (B j c + if c = k then f * B j i else 0)):Em p (mm n A B' r c) (mm n A B r c + if c = k then f * mm n A B r i else 0):=by
 refine (mm_em (A':=A) (B':=fun j c => B j c + if c = k then f * B j i else 0) (fun j _ => Em.rf _) hB).trans (Em.of_eq ?_)
 show su n (fun j => A r j * (B j c + if c = k then f * B j i else 0)) = _
 by_cases e:c = k
 ·rw [if_pos e,su_congr (g:=fun j => A r j * B j c + f * (A r j * B j i)) fun j _ => by rw [if_pos e]; grind,su_add,su_mul]
  rfl
 rw [if_neg e,su_congr (g:=fun j => A r j * B j c) fun j _ => by rw [if_neg e,Int.add_zero]]
 show mm n A B r c = _
 omega
theorem mm_both {p n i k r c:Nat} {f:Int} {A B A' B':Nat → Nat → Int} (hi:i < n) (hk:k < n) (hne:i ≠ k) (hA:∀ j,j < n → Em p (A' r j) (A r j + if j = k then f * A r i else 0)) (hB:∀ j,j < n → Em p (B' j c) (B j c - if j = i then f * B k c else 0)):Em p (mm n A' B' r c) (mm n A B r c):=by
 refine (mm_em (A':=fun r j => A r j + if j = k then f * A r i else 0) (B':=fun j c => B j c - if j = i then f * B k c else 0) hA hB).trans (Em.of_eq ?_)
 unfold mm
 have h:su n (fun j => (A r j + if j = k then f * A r i else 0) * (B j c - if j = i then f * B k c else 0)) = su n fun j => A r j * B j c + ((if j = k then f * A r i * B k c else 0) + if j = i then -(A r i * (f * B k c)) else 0):=su_congr fun j _ => by
  by_cases e1:j = k
  ·subst e1
   rw [if_pos rfl,if_pos rfl,if_neg (fun h => hne h.symm),if_neg (fun h => hne h.symm)]; grind
  rw [if_neg e1,if_neg e1]
  by_cases e2:j = i
  ·subst e2; rw [if_pos rfl,if_pos rfl]; grind
  rw [if_neg e2,if_neg e2]; grind
 rw [h,su_add,su_add,su_one (f:=fun _ => f * A r i * B k c) hk,su_one (f:=fun _ => -(A r i * (f * B k c))) hi]; grind
def dl (i k:Nat):Int:=((if i = k then 1 else 0:Nat):Int)
structure HInv (p n:Nat) (A:Nat → Nat → Int) (s:HS):Prop where
  one:∀ r c,r < n → c < n → Em p (mm n (en s.S) (en s.R) r c) (dl r c)
  sim:∀ r c,r < n → c < n → Em p (mm n (mm n (en s.R) A) (en s.S) r c) (en s.H r c)
section
variable {p n:Nat} {A:Nat → Nat → Int} {s:HS} {i k f:Nat}
theorem HInv.swap (h:HInv p n A s) (hk0:HOk p n s) (hi:i < n) (hk:k < n):HInv p n A (s.swap i k) where
 one r c hr hc:=by
  refine (Em.of_eq ?_).trans (h.one r c hr hc)
  exact mm_tr hi hk (fun j _ => en_swapC hk0.ss hi hk (by rw [hk0.sl]; exact hr)) fun j _ => en_swapM (by rw [hk0.rl]; exact hi) (by rw [hk0.rl]; exact hk)
 sim r c hr hc:=by
  have h1:=h.sim (tr i k r) (tr i k c) (tr_lt hi hk hr) (tr_lt hi hk hc)
  have h2:en (s.swap i k).H r c = en s.H (tr i k r) (tr i k c):=by
   have:=en_swapC (c:=c) (swapM_shp hk0.hs (by rw [hk0.hl]; exact hi) (by rw [hk0.hl]; exact hk)) hi hk (show r < (swapM s.H i k).length by rw [swapM_len,hk0.hl]; exact hr)
   exact this.trans (en_swapM (by rw [hk0.hl]; exact hi) (by rw [hk0.hl]; exact hk))
  rw [h2]
  refine (Em.of_eq ?_).trans h1
  unfold mm
  refine su_congr fun j hj => ?_
  rw [show en (s.swap i k).S j c = en s.S j (tr i k c) from en_swapC hk0.ss hi hk (by rw [hk0.sl]; exact hj)]
  congr 1
  exact su_congr fun l _ => by rw [show en (s.swap i k).R r l = en s.R (tr i k r) l from en_swapM (by rw [hk0.rl]; exact hi) (by rw [hk0.rl]; exact hk)]
theorem HInv.less (h:HInv p n A s) (hk0:HOk p n s) (hp:0 < p) (hi:i < n) (hk:k < n) (hne:i ≠ k):HInv p n A (s.less p i k f) where
 one r c hr hc:=by
  refine Em.trans ?_ (h.one r c hr hc)
  exact mm_both (f:=(f:Int)) hi hk hne (fun j _ => en_addC hk0.ss hk (by rw [hk0.sl]; exact hr)) fun j _ => en_subM hp hk0.rs (by rw [hk0.rl]; exact hi) (by rw [hk0.rl]; exact hk) hc
 sim r c hr hc:=by
  have hA:∀ r c,r < n → Em p (mm n (en (s.less p i k f).R) A r c) (mm n (en s.R) A r c - if r = i then (f:Int) * mm n (en s.R) A k c else 0):=fun r c hr => mm_row fun j hj => en_subM hp hk0.rs (by rw [hk0.rl]; exact hi) (by rw [hk0.rl]; exact hk) hj
  have h1:∀ r c,r < n → Em p (mm n (mm n (en (s.less p i k f).R) A) (en s.S) r c) (mm n (mm n (en s.R) A) (en s.S) r c - if r = i then (f:Int) * mm n (mm n (en s.R) A) (en s.S) k c else 0):=fun r c hr => mm_row fun j _ => hA r j hr
  have h2:Em p (mm n (mm n (en (s.less p i k f).R) A) (en (s.less p i k f).S) r c) (mm n (mm n (en (s.less p i k f).R) A) (en s.S) r c + if c = k then (f:Int) * mm n (mm n (en (s.less p i k f).R) A) (en s.S) r i else 0):=mm_col fun j hj => en_addC hk0.ss hk (by rw [hk0.sl]; exact hj)
  have h3:∀ c,c < n → Em p (mm n (mm n (en (s.less p i k f).R) A) (en s.S) r c) (en (subM p f i k s.H) r c):=fun c hc => by
   refine (h1 r c hr).trans (Em.trans ?_ (en_subM hp hk0.hs (by rw [hk0.hl]; exact hi) (by rw [hk0.hl]; exact hk) hc).symm)
   refine (h.sim r c hr hc).sub ?_
   split
   ·exact (Em.rf _).mul (h.sim k c hk hc)
   exact Em.rf _
  refine h2.trans (Em.trans ?_ (en_addC (hk0.hs.subM hp (by rw [hk0.hl]; exact hi) (by rw [hk0.hl]; exact hk)) hk (by rw [subM_len,hk0.hl]; exact hr)).symm)
  refine (h3 c hc).add ?_
  split
  ·exact (Em.rf _).mul (h3 i hi)
  exact Em.rf _
theorem HInv.elim (h:HInv p n A s) (hk0:HOk p n s) (hp:0 < p) {iv:Nat}:∀ d,d + k + 2 ≤ n → HInv p n A (s.elim p k iv d)
 | 0,_ => h
 | d + 1,hd => by
  rw [HS.elim]
  split
  ·exact h.elim hk0 hp d (by omega)
  exact (h.elim hk0 hp d (by omega)).less (hk0.elim hp d (by omega)) hp (by omega) (by omega) (by omega)
theorem HInv.pivot (h:HInv p n A s) (hk0:HOk p n s) (hi:i < n) (hk:k + 1 < n):HInv p n A (s.pivot k i):=by
  unfold HS.pivot
  split
  · exact h
  exact h.swap hk0 hi hk
theorem HInv.step (h:HInv p n A s) (hk0:HOk p n s) (hp:0 < p) (hk:k + 2 ≤ n):HInv p n A (s.step p n k):=by
 unfold HS.step
 split
 ·exact h
 rename_i i hf
 obtain ⟨f1,f2,f3,f4⟩:=firstNZ_is hf
 exact (h.pivot hk0 (by omega) (by omega)).elim (hk0.pivot hp (by omega) (by omega)) hp _ (by omega)
theorem en_oneH (hi:i < n) (hk:k < n):en (oneH n) i k = dl i k:=by
  unfold en oneH dl
  rw [show (mkM n n fun i k => if i = k then 1 else 0).getD i [] = rowF n fun k => if i = k then 1 else 0 by simp [mkM,List.getD,hi],rowF_nd hk]
theorem su_dl (hk:k < n) (g:Nat → Int):su n (fun j => g j * dl j k) = g k:=by
  rw [su_congr (g:=fun j => if j = k then g j else 0) fun j _ => by unfold dl; split <;> simp]
  exact su_one hk
theorem su_dl2 (hk:k < n) (g:Nat → Int):su n (fun j => dl k j * g j) = g k:=by
  rw [← su_dl hk g]
  exact su_congr fun j _ => by unfold dl; by_cases e : k = j; · subst e; rw [Int.mul_comm]
                               · rw [if_neg e,if_neg (fun h => e h.symm)]; simp
end
theorem HInv.start {p n:Nat} {M:List (List Nat)}:HInv p n (en M) ⟨modM p M,oneH n,oneH n⟩ where
 one r c hr hc:=Em.of_eq (by
  show mm n (en (oneH n)) (en (oneH n)) r c = _
  unfold mm
  rw [su_congr (g:=fun j => dl r j * dl j c) fun j hj => by rw [en_oneH hr hj,en_oneH hj hc],su_dl2 hr])
 sim r c hr hc:=by
  refine Em.trans (Em.of_eq (b:=en M r c) ?_) ?_
  ·show mm n (mm n (en (oneH n)) (en M)) (en (oneH n)) r c = _
   unfold mm
   rw [su_congr (g:=fun j => en M r j * dl j c) fun j hj => by rw [en_oneH hj hc,su_congr (g:=fun l => dl r l * en M l j) fun l hl => by rw [en_oneH hr hl],su_dl2 hr],su_dl hc]
  unfold en
  rw [show nd ((modM p M).getD r []) c = nd (M.getD r []) c % p from ?_]
  ·exact (Em.md _).symm
  by_cases hr':r < M.length
  ·show nd ((M.map fun r => r.map (· % p)).getD r []) c = _
   rw [mapM_at hr',nd_mod]
  have e:∀ (N:List (List Nat)),N.length ≤ r → N.getD r [] = []:=fun N h => by simp [List.getD,List.getElem?_eq_none h]
  rw [e _ (by rw [modM_len]; omega),e _ (by omega)]; simp [nd]
theorem HInv.red {p n:Nat} {M:List (List Nat)} (hp:1 < p) (hr:RectM M) (hl:M.length = n) (hq:M.length = colsM M):∀ k,k + 1 ≤ n → HInv p n (en M) (HS.red p n M (k - 1))
  | 0,_ => HInv.start
  | 1,_ => HInv.start
  | k + 2,hk => (HInv.red hp hr hl hq (k + 1) (by omega)).step (HOk.red hp hr hl hq (k + 1) (by omega)) (by omega) (by show k + 2 ≤ n; omega)
def Hz (n k:Nat) (H:List (List Nat)):Prop := ∀ c r,c < k → c + 1 < r → r < n → nd (H.getD r []) c = 0
section
variable {p n k:Nat} {s:HS}
theorem less_at {i j r f:Nat} (hk0:HOk p n s) (hp:0 < p) (hi:i < n) (hj:j < n) (hr:r < n) {c:Nat} (hc:c < n) (hcj:c ≠ j):nd ((s.less p i j f).H.getD r []) c = if r = i then (nd (s.H.getD r []) c + p - f * nd (s.H.getD j []) c % p) % p else nd (s.H.getD r []) c:=by
 show nd ((addC p f i j (subM p f i j s.H)).getD r []) c = _
 have hsm:=hk0.hs.subM (f:=f) (i:=i) (k:=j) hp (by rw [hk0.hl]; exact hi) (by rw [hk0.hl]; exact hj)
 have hr':r < (subM p f i j s.H).length:=by rw [subM_len,hk0.hl]; exact hr
 rw [show addC p f i j (subM p f i j s.H) = (subM p f i j s.H).map (addR p f i j) from rfl,mapM_at hr',addR_nd (by rw [(hsm.at hr').1]; exact hj),if_neg hcj,subM_at (by rw [hk0.hl]; exact hi)]
 split
 ·rename_i e
  subst e
  rw [lessR_nd (by rw [(hk0.hs.at (by rw [hk0.hl]; exact hi)).1,(hk0.hs.at (by rw [hk0.hl]; exact hj)).1]) (by rw [(hk0.hs.at (by rw [hk0.hl]; exact hi)).1]; exact hc)]
 rfl
theorem swap_at {i j r c:Nat} (hk0:HOk p n s) (hi:i < n) (hj:j < n) (hr:r < n):nd ((s.swap i j).H.getD r []) c = nd (s.H.getD (tr i j r) []) (tr i j c):=by
  have:=en_swapC (c:=c) (swapM_shp hk0.hs (by rw [hk0.hl]; exact hi) (by rw [hk0.hl]; exact hj)) hi hj (show r < (swapM s.H i j).length by rw [swapM_len,hk0.hl]; exact hr)
  have h2:=this.trans (en_swapM (by rw [hk0.hl]; exact hi) (by rw [hk0.hl]; exact hj))
  unfold en at h2
  exact Int.ofNat.inj h2
theorem less0 {x f:Nat} (hp:0 < p) (hx:x = 0):(x + p - f * 0 % p) % p = 0:=by subst hx; rw [Nat.mul_zero,Nat.zero_mod,Nat.sub_zero,Nat.zero_add,Nat.mod_self]
theorem Hz.pivot (h:Hz n k s.H) (hk0:HOk p n s) {i:Nat} (hi:i < n) (hk:k + 1 < n) (hki:k + 1 ≤ i):Hz n k (s.pivot k i).H:=by
 unfold HS.pivot
 split
 ·exact h
 intro c r hc hcr hr
 rw [swap_at hk0 hi hk hr]
 have e:tr i (k + 1) c = c:=by unfold tr; rw [if_neg (by omega),if_neg (by omega)]
 rw [e]
 refine h c _ hc ?_ (tr_lt hi hk hr)
 unfold tr; split; omega; split <;> omega
theorem pivot_at {i:Nat} (hk0:HOk p n s) (hi:i < n) (hk:k + 1 < n) (hki:k + 1 ≤ i):nd ((s.pivot k i).H.getD (k + 1) []) k = nd (s.H.getD i []) k:=by
 unfold HS.pivot
 split
 ·rename_i e; rw [e]
 rename_i e
 rw [swap_at hk0 hi hk (by omega)]
 have e1:tr i (k + 1) k = k:=by unfold tr; rw [if_neg (by omega),if_neg (by omega)]
 have e2:tr i (k + 1) (k + 1) = i:=by unfold tr; rw [if_neg (by omega),if_pos rfl]
 rw [e1,e2]
theorem Hz.less (h:Hz n k s.H) (hk0:HOk p n s) (hp:0 < p) {i f:Nat} (hi:i < n) (hk:k + 1 < n) (hki:k + 1 < i):Hz n k (s.less p i (k + 1) f).H:=by
  intro c r hc hcr hr
  rw [less_at hk0 hp hi hk hr (by omega) (by omega)]
  split
  · rw [h c (k + 1) hc (by omega) hk]; exact less0 hp (h c r hc hcr hr)
  exact h c r hc hcr hr
theorem elim_row {iv:Nat} (hk0:HOk p n s) (hp:0 < p) {c r:Nat} (hc:c < n) (hck:c ≠ k + 1) (hr:r < n):∀ d,d + k + 2 ≤ n → (r < k + 2 ∨ k + 2 + d ≤ r) → nd ((s.elim p k iv d).H.getD r []) c = nd (s.H.getD r []) c
 | 0,_,_ => rfl
 | d + 1,hd,h => by
  have ih:=elim_row (iv:=iv) hk0 hp hc hck hr d (by omega) (by omega)
  rw [HS.elim]
  split
  ·exact ih
  rw [less_at (hk0.elim hp d (by omega)) hp (by omega) (by omega) hr hc hck,if_neg (by omega)]; exact ih
theorem Hz.elim (h:Hz n k s.H) (hk0:HOk p n s) (hp:0 < p) {iv:Nat}:∀ d,d + k + 2 ≤ n → Hz n k (s.elim p k iv d).H
 | 0,_ => h
 | d + 1,hd => by
  rw [HS.elim]
  split
  ·exact h.elim hk0 hp d (by omega)
  exact (h.elim hk0 hp d (by omega)).less (hk0.elim hp d (by omega)) hp (by omega) (by omega) (by omega)
theorem elim_zero (hk0:HOk p n s) (hp:0 < p) {iv:Nat} (hiv:Em p ((nd (s.H.getD (k + 1) []) k:Int) * iv) 1):∀ d,d + k + 2 ≤ n → ∀ r,k + 2 ≤ r → r < k + 2 + d → nd ((s.elim p k iv d).H.getD r []) k = 0
 | 0,_,r,h1,h2 => by omega
 | d + 1,hd,r,h1,h2 => by
  have ih:=elim_zero hk0 hp hiv d (by omega) r h1
  have hko:=hk0.elim (iv:=iv) (k:=k) hp d (by omega)
  rw [HS.elim]
  split
  ·rename_i h0
   by_cases e:r = k + 2 + d
   ·subst e; exact h0
   exact ih (by omega)
  rw [less_at (i:=k + 2 + d) (j:=k + 1) (r:=r) (c:=k) hko hp (by omega) (by omega) (by omega) (by omega) (by omega)]
  by_cases e:r = k + 2 + d
  ·subst e
   rw [if_pos rfl,elim_row (k:=k) (c:=k) (r:=k + 1) hk0 hp (by omega) (by omega) (by omega) d (by omega) (.inl (by omega))]
   have hlt:=hko.hs.nd hp (k + 2 + d) k
   generalize nd ((s.elim p k iv d).H.getD (k + 2 + d) []) k = x at hlt ⊢
   generalize nd (s.H.getD (k + 1) []) k = y at hiv ⊢
   refine Em.eq (Nat.mod_lt _ hp) hp ((Em.less hp).trans ?_)
   have h3:Em p (((x * iv % p:Nat):Int) * y) ((x:Int) * (y * iv)):=((Em.md _).mul (Em.rf _)).trans (Em.of_eq (by rw [Int.natCast_mul]; grind))
   have h4:=((Em.rf (p:=p) (x:Int)).sub (h3.trans ((Em.rf _).mul hiv)))
   exact h4.trans (Em.of_eq (by omega))
  rw [if_neg e]; exact ih (by omega)
theorem Hz.step (h:Hz n k s.H) (hk0:HOk p n s) (hp:MR.Pr p) (hk:k + 2 ≤ n):Hz n (k + 1) (s.step p n k).H:=by
 have hp0:0 < p:=by have:=hp.1; omega
 intro c r hc hcr hr
 unfold HS.step
 split
 ·rename_i hf
  by_cases e:c = k
  ·subst e; exact firstNZ_zero hf r (by omega) (by omega)
  exact h c r (by omega) hcr hr
 rename_i i hf
 obtain ⟨f1,f2,f3,f4⟩:=firstNZ_is hf
 have hko:=hk0.pivot (i:=i) (k:=k) hp0 (by omega) (by omega)
 by_cases e:c = k
 ·subst e
  refine elim_zero hko hp0 ?_ _ (by omega) r (by omega) (by omega)
  refine pinv_em hp ?_
  rw [pivot_at hk0 (by omega) (by omega) (by omega)]
  intro hd
  have:=Nat.le_of_dvd (by omega) hd
  have:=hk0.hs.nd hp0 i c
  omega
 exact ((h.pivot hk0 (by omega) (by omega) (by omega)).elim hko hp0 _ (by omega)) c r (by omega) hcr hr
end
theorem Hz.red {p n:Nat} {M:List (List Nat)} (hp:MR.Pr p) (hr:RectM M) (hl:M.length = n) (hq:M.length = colsM M):∀ k,k + 1 ≤ n → Hz n (k - 1) (HS.red p n M (k - 1)).H
  | 0,_ => fun _ _ h => by omega
  | 1,_ => fun _ _ h => by omega
  | k + 2,hk => (Hz.red hp hr hl hq (k + 1) (by omega)).step (HOk.red hp.1 hr hl hq (k + 1) (by omega)) hp (by show k + 2 ≤ n; omega)
open Go.RowKit
section
variable {P:Program} {o:Oper} {n:Nat} {f:Nat → Value} {w w0:World} {R:List Res} {K:Act → World → Prop} {Q:Exit → Act → World → Prop} {d:Nat}
theorem omakeFuncB {F:FuncId} {xs ys:Array Operand} {av cs:Array Value} (hop:o.op = .makeFunc (.func F) ys xs) (ho:o.dst = some d) (hy:ys.map (act n f).eval = av) (hx:xs.map (act n f).eval = cs) (hK:K (act n (upd f d (.func (.func F) av cs))) w):OW P o (act n f) w K Q :=
  oval ho (by simp [execOp,hop,hx,hy,Instr.makeFunc]) rfl hK
theorem ocallB {F:FuncId} {av:Array Value} {c:Call} {x:Operand} {xs:Array Operand} {ts:Array TypeId} {vs:Array Value} {Rp:Ending → World → Prop} (hop:o.op = .call c) (hc:c = { callee:=.value x,args:=xs,argTypes:=ts }) (hv:(act n f).eval x = .func (.func F) av #[]) (hF:∀ args w,(callFunc F args).run P w = .ok (.enter F args) w)
  (ho:o.dst = some d) (hC:Calls P F (av ++ vs) w Rp) (hx:xs.map (act n f).eval = vs) (hK:∀ e w',Rp e w' → ∃ v,e = .returned v ∧ K (act n (upd f d v)) w'):OW P o (act n f) w K Q:=by
 refine ⟨?_⟩
 subst hc
 unfold Oper.wp
 have e:(execOp (act n f).eval o).run P w = .ok (.enter F (av ++ vs)) w:=by
  simp only [execOp,hop,resolve,hx,hv]
  simp [Deferred.ofValue,invoke,hF]
 rw [e,Oper.upon_enter]
 refine hC.mono fun e w' h => ?_
 obtain ⟨v,rfl,hk⟩:=hK e w' h
 show K ((act n f).put o.dst v) w'
 rw [ho,act_put]
 exact hk
theorem omax2 {c:Call} {x y:Operand} {ts:Array TypeId} {a b r:Int} (hop:o.op = .call c) (hc:c = { callee:=.builtin .max,args:=#[x,y],argTypes:=ts }) (ho:o.dst = some d)
  (hx:(act n f).eval x = .int .i64 a) (hy:(act n f).eval y = .int .i64 b) (hr:(if b > a then b else a) = r) (hK:K (act n (upd f d (.int .i64 r))) w):OW P o (act n f) w K Q:=by
 refine oval ho ?_ rfl hK
 subst hc; subst hr
 simp only [execOp,hop,resolve,invoke,builtin,Builtin.max_,Builtin.max2,List.map_toArray,List.map_cons,List.map_nil,hx,hy,Sem.run_bind,Sem.run_pure,Result.andThen_ok,List.foldlM_cons,List.foldlM_nil]
end
theorem Sep.newH {S:List Res} {w w':World} (h:Sep w S w') (ha:S.all (fun r => !r.arg) = true):New w S w' :=
  ⟨h.below,h.holds,fun r hr g hg => h.low r hr (by have:=List.all_eq_true.1 ha r hr; simpa using this) g hg,h.apart⟩
theorem Sep.nilQ {w0 w:World} {R:List Res} (h:Sep w0 R w):∀ n,Sep w0 (flatR (mmE (List.replicate n ⟨none,0,[]⟩)) ++ R) w
 | 0 => h
 | n + 1 => by
  have h1:=(Sep.nilQ h n).nilRowm
  have e:flatR (mmE (List.replicate (n + 1) ⟨none,0,[]⟩)) = .rowm none 0 0 [] :: flatR (mmE (List.replicate n ⟨none,0,[]⟩)):=by
   rw [List.replicate_succ]; unfold mmE flatR; rw [List.map_cons,List.flatMap_cons]; rfl
  rw [e]; exact h1
theorem els_mmE (Q:List Rw):Els 1 (mmE Q):=fun el hel => by
  obtain ⟨q,_,rfl⟩:=List.mem_map.1 hel
  exact ⟨rfl,rfl,fun r hr => by rw [List.mem_singleton.1 hr]; exact ⟨rfl,rfl⟩⟩
theorem flatC_nilQ:∀ n,flatC (mmE (List.replicate n ⟨none,0,[]⟩)) = flatC (List.replicate n ⟨[.slice none 0 0],[]⟩)
 | 0 => rfl
 | n + 1 => by
  rw [List.replicate_succ,List.replicate_succ]
  show [Value.slice none 0 0] ++ flatC (mmE (List.replicate n ⟨none,0,[]⟩)) = [Value.slice none 0 0] ++ flatC (List.replicate n ⟨[.slice none 0 0],[]⟩)
  rw [flatC_nilQ n]
theorem Sep.nilMM {w0 w:World} {R:List Res} {e:TypeId} {p:Option Addr} {m c n:Nat} (h:Sep w0 (.lst e 1 p m c (List.replicate n ⟨[.slice none 0 0],[]⟩) :: R) w):Sep w0 (.lst e 1 p m c (mmE (List.replicate n ⟨none,0,[]⟩)) :: R) w:=by
  obtain ⟨_,hl,h1⟩:=h.openL
  rw [flatR_replicate,List.nil_append, ← flatC_nilQ] at h1
  refine Sep.closeL (els_mmE _) (by rw [mmE_len,List.length_replicate]; rw [List.length_replicate] at hl; exact hl) ?_
  exact (h1.nilQ n).perm List.perm_middle
def mapTo (g:List Nat → List Nat) (M:List (List Nat)):Nat → List (List Nat)
  | 0 => M
  | j + 1 => (mapTo g M j).set j (g ((mapTo g M j).getD j []))
section
variable {g:List Nat → List Nat} {M:List (List Nat)}
theorem mapTo_len:∀ j,(mapTo g M j).length = M.length
  | 0 => rfl
  | j + 1 => by rw [mapTo,List.length_set,mapTo_len j]
theorem mapTo_from:∀ {j l:Nat},j ≤ l → (mapTo g M j).getD l [] = M.getD l []
  | 0,_,_ => rfl
  | j + 1,l,h => by rw [mapTo,getD_set_ne (by omega),mapTo_from (by omega)]
theorem mapTo_done:∀ {j l:Nat},l < j → l < M.length → (mapTo g M j).getD l [] = g (M.getD l [])
 | j + 1,l,h,hl => by
  rw [mapTo]
  by_cases e:j = l
  ·subst e; rw [getD_set_self (by rw [mapTo_len]; exact hl),mapTo_from (Nat.le_refl _)]
  rw [getD_set_ne e,mapTo_done (by omega) hl]
theorem mapTo_all {j:Nat} (h:j = M.length):mapTo g M j = M.map g:=by
  subst h
  apply List.ext_getElem?
  intro l
  by_cases hl:l < M.length
  · rw [get_getD (by rw [mapTo_len]; exact hl),mapTo_done hl hl,get_getD (by rw [mapM_len]; exact hl),mapM_at hl]
  rw [List.getElem?_eq_none (by rw [mapTo_len]; omega),List.getElem?_eq_none (by rw [mapM_len]; omega)]
theorem Shp.mapTo {p C:Nat} (h:Shp p C M) (hg:∀ r,(r.length = C ∧ ∀ x ∈ r,x < p) → (g r).length = C ∧ ∀ x ∈ g r,x < p):∀ j,j ≤ M.length → Shp p C (mapTo g M j)
  | 0,_ => h
  | j + 1,hj => (Shp.mapTo h hg j (by omega)).set j (hg _ ((Shp.mapTo h hg j (by omega)).at (by rw [mapTo_len]; omega)))
end
theorem nums_lenQ {Q:List Rw} {N:List (List Nat)} (h:nums Q = N):Q.length = N.length:=by rw [← h,nums_len]
def wkC (p n:Nat) (pH:Option Addr) (cH:Nat) (pS:Option Addr) (cS:Nat) (pR:Option Addr) (cR:Nat):List Value:=[.int .u64 ((p:Nat):Int),.slice pH n cH,.slice pS n cS,.slice pR n cR]
def HsX (g p n:Nat) (pH:Option Addr) (cH:Nat) (pS:Option Addr) (cS:Nat) (pR:Option Addr) (cR:Nat) (s:HS):Tell:=fun v r => ∃ QH QS QR,nums QH = s.H ∧ nums QS = s.S ∧ nums QR = s.R ∧ v = .tuple #[] ∧ r = [.blk g [.int .u64 ((p:Nat):Int),.slice pH n cH,.slice pS n cS,.slice pR n cR] 59,.lst 29 1 pH n cH (mmE QH),.lst 29 1 pS n cS (mmE QS),.lst 29 1 pR n cR (mmE QR)]
def MMh (n:Nat) (M:List (List Nat)):Tell:=fun v r => ∃ (pp:Option Addr) (c:Nat) (Q:List Rw),nums Q = M ∧ v = .slice pp n c ∧ r = [.lst 29 1 pp n c (mmE Q)]
theorem qset2 {Q:List Rw} {j:Nat} {a b:Rw}:(Q.set j a).set j b = Q.set j b:=List.set_set ..
open Go.RowKit
theorem whmul {p a b:Nat} {w:World} (hp0:0 < p) (hp2:p < 4294967296) (ha:a < 4294967296) (hb:b < 4294967296) :
  Calls Tryd.prog 27 #[.agg #[.int .u64 ((p:Nat):Int)],.int .u32 ((a:Nat):Int),.int .u32 ((b:Nat):Int)] w (Ret (Is (.int .u32 ((a * b % p:Nat):Int))) w):=by
 have hm:=Nat.mod_lt (a * b) hp0
 have hS:=Sep.init w
 refine went Tryd.func27 rfl (n:=16) rfl rfl ?_
 refine wsr (wl rfl (obox [.int .u64 (p:Int)] hS rfl rfl (ev (v:=.agg #[.int .u64 (p:Int)]) rfl rfl) rfl ?_))
 clear hS; intro g1 w2 hS
 refine wavc ?_
 refine wn2 (wmv (v:=.int .u32 (a:Int)) rfl rfl ?_)
 refine wl rfl (oCv (u:=.int .u32 (a:Int)) (v:=.int .u64 (a:Int)) rfl rfl (ev rfl rfl) (cvI Tryd.runUnderlying24 Tryd.runUnderlying44 (wU6 (by omega) (by omega))) ?_)
 refine wmv (v:=.int .u32 (b:Int)) rfl rfl ?_
 refine wl rfl (oCv (u:=.int .u32 (b:Int)) (v:=.int .u64 (b:Int)) rfl rfl (ev rfl rfl) (cvI Tryd.runUnderlying24 Tryd.runUnderlying44 (wU6 (by omega) (by omega))) ?_)
 refine wbt (u:=.int .u64 (a:Int)) (v:=.int .u64 (b:Int)) (z:=.int .u64 ((a * b:Nat):Int)) rfl rfl rfl rfl (bin_mul (mul_u64 ha hb)) ?_
 refine wl rfl (oFA (g:=g1) (off:=0) 0 rfl rfl (ev rfl rfl) Tryd.runUnderlying57 rfl Tryd.sizeOf44 rfl ?_)
 refine wl rfl (oL1 (v:=.int .u64 (p:Int)) ⟨Tryd.isAgg44,Tryd.sizeOf44⟩ hS 0 rfl rfl (ev rfl rfl) rfl rfl ?_)
 refine wbt (u:=.int .u64 ((a * b:Nat):Int)) (v:=.int .u64 (p:Int)) (z:=.int .u64 ((a * b % p:Nat):Int)) rfl rfl rfl rfl (bin_rem (by omega) rfl) ?_
 refine wl rfl (oCv (u:=.int .u64 ((a * b % p:Nat):Int)) (v:=.int .u32 ((a * b % p:Nat):Int)) rfl rfl (ev rfl rfl) (cvI Tryd.runUnderlying44 Tryd.runUnderlying24 (wrap_u32 (by omega) (by omega))) ?_)
 refine wav (v:=.int .u32 ((a * b % p:Nat):Int)) rfl rfl ?_
 refine wn1 ?_
 refine wLv ?_
 refine wr1 Tryd.results27 (tlT (v:=.int .u32 ((a * b % p:Nat):Int)) rfl rfl) ?_
 exact ⟨_,_,rfl,isI,hS.new0⟩
theorem whadd {p a b:Nat} {w:World} (hp0:0 < p) (hp2:p < 4294967296) (ha:a < 4294967296) (hb:b < 4294967296) :
  Calls Tryd.prog 69 #[.agg #[.int .u64 ((p:Nat):Int)],.int .u32 ((a:Nat):Int),.int .u32 ((b:Nat):Int)] w (Ret (Is (.int .u32 (((a + b) % p:Nat):Int))) w):=by
 have hm:=Nat.mod_lt ((a + b)) hp0
 have hS:=Sep.init w
 refine went Tryd.func69 rfl (n:=16) rfl rfl ?_
 refine wsr (wl rfl (obox [.int .u64 (p:Int)] hS rfl rfl (ev (v:=.agg #[.int .u64 (p:Int)]) rfl rfl) rfl ?_))
 clear hS; intro g1 w2 hS
 refine wavc ?_
 refine wn2 (wmv (v:=.int .u32 (a:Int)) rfl rfl ?_)
 refine wl rfl (oCv (u:=.int .u32 (a:Int)) (v:=.int .u64 (a:Int)) rfl rfl (ev rfl rfl) (cvI Tryd.runUnderlying24 Tryd.runUnderlying44 (wU6 (by omega) (by omega))) ?_)
 refine wmv (v:=.int .u32 (b:Int)) rfl rfl ?_
 refine wl rfl (oCv (u:=.int .u32 (b:Int)) (v:=.int .u64 (b:Int)) rfl rfl (ev rfl rfl) (cvI Tryd.runUnderlying24 Tryd.runUnderlying44 (wU6 (by omega) (by omega))) ?_)
 refine wbt (u:=.int .u64 (a:Int)) (v:=.int .u64 (b:Int)) (z:=.int .u64 ((a + b:Nat):Int)) rfl rfl rfl rfl (bAd (wU6 (by omega) (by omega))) ?_
 refine wl rfl (oFA (g:=g1) (off:=0) 0 rfl rfl (ev rfl rfl) Tryd.runUnderlying57 rfl Tryd.sizeOf44 rfl ?_)
 refine wl rfl (oL1 (v:=.int .u64 (p:Int)) ⟨Tryd.isAgg44,Tryd.sizeOf44⟩ hS 0 rfl rfl (ev rfl rfl) rfl rfl ?_)
 refine wbt (u:=.int .u64 ((a + b:Nat):Int)) (v:=.int .u64 (p:Int)) (z:=.int .u64 ((((a + b) % p:Nat):Int))) rfl rfl rfl rfl (bin_rem (by omega) rfl) ?_
 refine wl rfl (oCv (u:=.int .u64 ((((a + b) % p:Nat):Int))) (v:=.int .u32 ((((a + b) % p:Nat):Int))) rfl rfl (ev rfl rfl) (cvI Tryd.runUnderlying44 Tryd.runUnderlying24 (wrap_u32 (by omega) (by omega))) ?_)
 refine wav (v:=.int .u32 ((((a + b) % p:Nat):Int))) rfl rfl ?_
 refine wn1 ?_
 refine wLv ?_
 refine wr1 Tryd.results69 (tlT (v:=.int .u32 ((((a + b) % p:Nat):Int))) rfl rfl) ?_
 exact ⟨_,_,rfl,isI,hS.new0⟩
theorem whsub {p a b:Nat} {w:World} (hp0:0 < p) (hp2:p < 4294967296) (ha:a < 4294967296) (hb:b < 4294967296) (hbp:b ≤ p) :
  Calls Tryd.prog 68 #[.agg #[.int .u64 ((p:Nat):Int)],.int .u32 ((a:Nat):Int),.int .u32 ((b:Nat):Int)] w (Ret (Is (.int .u32 (((a + p - b) % p:Nat):Int))) w):=by
 have hm:=Nat.mod_lt ((a + p - b)) hp0
 have hS:=Sep.init w
 refine went Tryd.func68 rfl (n:=19) rfl rfl ?_
 refine wsr (wl rfl (obox [.int .u64 (p:Int)] hS rfl rfl (ev (v:=.agg #[.int .u64 (p:Int)]) rfl rfl) rfl ?_))
 clear hS; intro g1 w2 hS
 refine wavc ?_
 refine wn2 (wmv (v:=.int .u32 (a:Int)) rfl rfl ?_)
 refine wl rfl (oCv (u:=.int .u32 (a:Int)) (v:=.int .u64 (a:Int)) rfl rfl (ev rfl rfl) (cvI Tryd.runUnderlying24 Tryd.runUnderlying44 (wU6 (by omega) (by omega))) ?_)
 refine wl rfl (oFA (g:=g1) (off:=0) 0 rfl rfl (ev rfl rfl) Tryd.runUnderlying57 rfl Tryd.sizeOf44 rfl ?_)
 refine wl rfl (oL1 (v:=.int .u64 (p:Int)) ⟨Tryd.isAgg44,Tryd.sizeOf44⟩ hS 0 rfl rfl (ev rfl rfl) rfl rfl ?_)
 refine wbt (u:=.int .u64 (a:Int)) (v:=.int .u64 (p:Int)) (z:=.int .u64 ((a + p:Nat):Int)) rfl rfl rfl rfl (bAd (wU6 (by omega) (by omega))) ?_
 refine wmv (v:=.int .u32 (b:Int)) rfl rfl ?_
 refine wl rfl (oCv (u:=.int .u32 (b:Int)) (v:=.int .u64 (b:Int)) rfl rfl (ev rfl rfl) (cvI Tryd.runUnderlying24 Tryd.runUnderlying44 (wU6 (by omega) (by omega))) ?_)
 refine wbt (u:=.int .u64 ((a + p:Nat):Int)) (v:=.int .u64 (b:Int)) (z:=.int .u64 ((a + p - b:Nat):Int)) rfl rfl rfl rfl (bin_sub (by rw [show ((a + p:Nat):Int) - (b:Int) = ((a + p - b:Nat):Int) by omega]; exact wU6 (by omega) (by omega))) ?_
 refine wl rfl (oFA (g:=g1) (off:=0) 0 rfl rfl (ev rfl rfl) Tryd.runUnderlying57 rfl Tryd.sizeOf44 rfl ?_)
 refine wl rfl (oL1 (v:=.int .u64 (p:Int)) ⟨Tryd.isAgg44,Tryd.sizeOf44⟩ hS 0 rfl rfl (ev rfl rfl) rfl rfl ?_)
 refine wbt (u:=.int .u64 ((a + p - b:Nat):Int)) (v:=.int .u64 (p:Int)) (z:=.int .u64 ((((a + p - b) % p:Nat):Int))) rfl rfl rfl rfl (bin_rem (by omega) rfl) ?_
 refine wl rfl (oCv (u:=.int .u64 ((((a + p - b) % p:Nat):Int))) (v:=.int .u32 ((((a + p - b) % p:Nat):Int))) rfl rfl (ev rfl rfl) (cvI Tryd.runUnderlying44 Tryd.runUnderlying24 (wrap_u32 (by omega) (by omega))) ?_)
 refine wav (v:=.int .u32 ((((a + p - b) % p:Nat):Int))) rfl rfl ?_
 refine wn1 ?_
 refine wLv ?_
 refine wr1 Tryd.results68 (tlT (v:=.int .u32 ((((a + p - b) % p:Nat):Int))) rfl rfl) ?_
 exact ⟨_,_,rfl,isI,hS.new0⟩
theorem wymul {p a b:Nat} {w:World} (hp0:0 < p) (hp2:p < 4294967296) (ha:a < 4294967296) (hb:b < 4294967296) :
  Calls Tryd.prog 72 #[.agg #[.int .u64 ((p:Nat):Int)],.int .u32 ((a:Nat):Int),.int .u32 ((b:Nat):Int)] w (Ret (Is (.int .u32 ((a * b % p:Nat):Int))) w):=by
 have hm:=Nat.mod_lt (a * b) hp0
 have hS:=Sep.init w
 refine went Tryd.func72 rfl (n:=16) rfl rfl ?_
 refine wsr (wl rfl (obox [.int .u64 (p:Int)] hS rfl rfl (ev (v:=.agg #[.int .u64 (p:Int)]) rfl rfl) rfl ?_))
 clear hS; intro g1 w2 hS
 refine wavc ?_
 refine wn2 (wmv (v:=.int .u32 (a:Int)) rfl rfl ?_)
 refine wl rfl (oCv (u:=.int .u32 (a:Int)) (v:=.int .u64 (a:Int)) rfl rfl (ev rfl rfl) (cvI Tryd.runUnderlying24 Tryd.runUnderlying44 (wU6 (by omega) (by omega))) ?_)
 refine wmv (v:=.int .u32 (b:Int)) rfl rfl ?_
 refine wl rfl (oCv (u:=.int .u32 (b:Int)) (v:=.int .u64 (b:Int)) rfl rfl (ev rfl rfl) (cvI Tryd.runUnderlying24 Tryd.runUnderlying44 (wU6 (by omega) (by omega))) ?_)
 refine wbt (u:=.int .u64 (a:Int)) (v:=.int .u64 (b:Int)) (z:=.int .u64 ((a * b:Nat):Int)) rfl rfl rfl rfl (bin_mul (mul_u64 ha hb)) ?_
 refine wl rfl (oFA (g:=g1) (off:=0) 0 rfl rfl (ev rfl rfl) Tryd.runUnderlying84 rfl Tryd.sizeOf44 rfl ?_)
 refine wl rfl (oL1 (v:=.int .u64 (p:Int)) ⟨Tryd.isAgg44,Tryd.sizeOf44⟩ hS 0 rfl rfl (ev rfl rfl) rfl rfl ?_)
 refine wbt (u:=.int .u64 ((a * b:Nat):Int)) (v:=.int .u64 (p:Int)) (z:=.int .u64 ((a * b % p:Nat):Int)) rfl rfl rfl rfl (bin_rem (by omega) rfl) ?_
 refine wl rfl (oCv (u:=.int .u64 ((a * b % p:Nat):Int)) (v:=.int .u32 ((a * b % p:Nat):Int)) rfl rfl (ev rfl rfl) (cvI Tryd.runUnderlying44 Tryd.runUnderlying24 (wrap_u32 (by omega) (by omega))) ?_)
 refine wav (v:=.int .u32 ((a * b % p:Nat):Int)) rfl rfl ?_
 refine wn1 ?_
 refine wLv ?_
 refine wr1 Tryd.results72 (tlT (v:=.int .u32 ((a * b % p:Nat):Int)) rfl rfl) ?_
 exact ⟨_,_,rfl,isI,hS.new0⟩
theorem wysub {p a b:Nat} {w:World} (hp0:0 < p) (hp2:p < 4294967296) (ha:a < 4294967296) (hb:b < 4294967296) (hbp:b ≤ p) :
  Calls Tryd.prog 44 #[.agg #[.int .u64 ((p:Nat):Int)],.int .u32 ((a:Nat):Int),.int .u32 ((b:Nat):Int)] w (Ret (Is (.int .u32 (((a + p - b) % p:Nat):Int))) w):=by
 have hm:=Nat.mod_lt ((a + p - b)) hp0
 have hS:=Sep.init w
 refine went Tryd.func44 rfl (n:=19) rfl rfl ?_
 refine wsr (wl rfl (obox [.int .u64 (p:Int)] hS rfl rfl (ev (v:=.agg #[.int .u64 (p:Int)]) rfl rfl) rfl ?_))
 clear hS; intro g1 w2 hS
 refine wavc ?_
 refine wn2 (wmv (v:=.int .u32 (a:Int)) rfl rfl ?_)
 refine wl rfl (oCv (u:=.int .u32 (a:Int)) (v:=.int .u64 (a:Int)) rfl rfl (ev rfl rfl) (cvI Tryd.runUnderlying24 Tryd.runUnderlying44 (wU6 (by omega) (by omega))) ?_)
 refine wl rfl (oFA (g:=g1) (off:=0) 0 rfl rfl (ev rfl rfl) Tryd.runUnderlying84 rfl Tryd.sizeOf44 rfl ?_)
 refine wl rfl (oL1 (v:=.int .u64 (p:Int)) ⟨Tryd.isAgg44,Tryd.sizeOf44⟩ hS 0 rfl rfl (ev rfl rfl) rfl rfl ?_)
 refine wbt (u:=.int .u64 (a:Int)) (v:=.int .u64 (p:Int)) (z:=.int .u64 ((a + p:Nat):Int)) rfl rfl rfl rfl (bAd (wU6 (by omega) (by omega))) ?_
 refine wmv (v:=.int .u32 (b:Int)) rfl rfl ?_
 refine wl rfl (oCv (u:=.int .u32 (b:Int)) (v:=.int .u64 (b:Int)) rfl rfl (ev rfl rfl) (cvI Tryd.runUnderlying24 Tryd.runUnderlying44 (wU6 (by omega) (by omega))) ?_)
 refine wbt (u:=.int .u64 ((a + p:Nat):Int)) (v:=.int .u64 (b:Int)) (z:=.int .u64 ((a + p - b:Nat):Int)) rfl rfl rfl rfl (bin_sub (by rw [show ((a + p:Nat):Int) - (b:Int) = ((a + p - b:Nat):Int) by omega]; exact wU6 (by omega) (by omega))) ?_
 refine wl rfl (oFA (g:=g1) (off:=0) 0 rfl rfl (ev rfl rfl) Tryd.runUnderlying84 rfl Tryd.sizeOf44 rfl ?_)
 refine wl rfl (oL1 (v:=.int .u64 (p:Int)) ⟨Tryd.isAgg44,Tryd.sizeOf44⟩ hS 0 rfl rfl (ev rfl rfl) rfl rfl ?_)
 refine wbt (u:=.int .u64 ((a + p - b:Nat):Int)) (v:=.int .u64 (p:Int)) (z:=.int .u64 ((((a + p - b) % p:Nat):Int))) rfl rfl rfl rfl (bin_rem (by omega) rfl) ?_
 refine wl rfl (oCv (u:=.int .u64 ((((a + p - b) % p:Nat):Int))) (v:=.int .u32 ((((a + p - b) % p:Nat):Int))) rfl rfl (ev rfl rfl) (cvI Tryd.runUnderlying44 Tryd.runUnderlying24 (wrap_u32 (by omega) (by omega))) ?_)
 refine wav (v:=.int .u32 ((((a + p - b) % p:Nat):Int))) rfl rfl ?_
 refine wn1 ?_
 refine wLv ?_
 refine wr1 Tryd.results44 (tlT (v:=.int .u32 ((((a + p - b) % p:Nat):Int))) rfl rfl) ?_
 exact ⟨_,_,rfl,isI,hS.new0⟩
theorem take_next {α : Type} {L:List α} {i:Nat} {x : α} (h:L[i]? = some x):L.take (i + 1) = L.take i ++ [x]:=by
  rw [List.take_add_one,h]; rfl
theorem lims_mod {xs:List Nat} {p:Nat} (hp:0 < p) (h2:p < 4294967296):Lims (xs.map (· % p)):=fun i hi => by
  rw [List.length_map] at hi
  rw [nd_get (by rw [List.length_map]; exact hi),List.getElem_map]
  exact Nat.lt_trans (Nat.mod_lt _ hp) h2
theorem modM_take {p i:Nat} {M:List (List Nat)} {x:List Nat} (h:M[i]? = some x):modM p (M.take (i + 1)) = modM p (M.take i) ++ [x.map (· % p)]:=by
  rw [take_next h]; unfold modM; rw [List.map_append]; rfl
theorem whcopied {pm:Option Addr} {nm cm p:Nat} {M:List (List Nat)} {w:World} (hm:MS w pm nm M) (hp0:0 < p) (hp2:p < 4294967296) (hb1:nm ≤ 2097152) (hb2:∀ r ∈ M,r.length ≤ 1048576) :
  Calls Tryd.prog 35 #[.agg #[.int .u64 ((p:Nat):Int)],.slice pm nm cm] w (Ret (MMh nm (modM p M)) w):=by
 have hS:=Sep.init w
 refine went Tryd.func35 rfl (n:=42) rfl rfl ?_
 refine wsr (wl rfl (obox [.int .u64 (p:Int)] hS rfl rfl (ev (v:=.agg #[.int .u64 (p:Int)]) rfl rfl) rfl ?_))
 clear hS; intro g1 w2 hS
 refine wavc ?_
 refine wn2 (wavc ?_)
 refine wn1 (wSq (wsr (wmv (v:=.slice pm nm cm) rfl rfl ?_)))
 refine wl rfl (olen rfl rfl rfl Tryd.runUnderlying23 (p:=pm) (k:=nm) (m:=cm) (ev rfl rfl) ?_)
 refine wmvc ?_
 refine wn1 (wBk ?_)
 replace hS:=hS.nilLst 29 1
 refine wLp (σ := Nat) (fun i a9 w' => ∃ (fb:Nat → Value) (Q:List Rw) (pX:Option Addr) (cX:Nat),a9 = act 42 (sets fb [(2,.pointer (some ⟨g1,0,none⟩)),(4,.slice none 0 0),(5,.slice pX i cX),(11,.slice pm nm cm),(12,.int .i64 (nm:Int)),(13,.int .i64 (i:Int))]) ∧ Sep w [.lst 29 1 pX i cX (mmE Q),.blk g1 [.int .u64 (p:Int)] 57] w' ∧ (i ≤ nm) ∧ (nums Q = modM p (M.take i))) (fun i => nm - i) (0) ⟨_,[],none,0,aSs ⟨rfl,rfl,rfl,rfl,rfl,rfl,trivial⟩,hS,Nat.zero_le _,rfl⟩ ?_
 clear hS; rintro i _ w3 ⟨fb,Q,pX,cX,rfl,hS,hi,hQ⟩
 refine wsr ?_
 by_cases hli:i < nm
 ·
  obtain ⟨xr,hxr⟩:∃ r,(M)[i]? = some r:=⟨_,List.getElem?_eq_getElem (by have:=hm.1; omega)⟩
  obtain ⟨br,ofr,pr,cr,hpr,hcr,hsr⟩:=hm.2.2 i _ hxr
  have hml:=hm.1
  have hrb:=hb2 xr (List.mem_of_getElem? hxr)
  refine wbt (u:=.int .i64 (i:Int)) (v:=.int .i64 (nm:Int)) rfl rfl rfl rfl (bLs (decide_eq_true (by omega))) ?_
  refine wn1 (wSq ?_)
  refine wT (ev rfl rfl) ?_
  refine wk2 (wl rfl (oIx (p:=pm) (g:=br) (off:=ofr) (m:=nm) (k:=i) (j:=(ofr + i * 1)) rfl rfl Tryd.runUnderlying23 Tryd.sizeOf29 (ev rfl rfl) hpr (ev rfl rfl) (by omega) rfl ?_))
  refine wl rfl (oLc (v:=.slice pr xr.length cr) ⟨Tryd.isAgg29,Tryd.sizeOf29⟩ rfl rfl (ev (v:=.pointer (some ⟨br,(ofr + i * 1),none⟩)) rfl rfl) (hS.cellAt (hcr 0 _ rfl)) ?_)
  refine wav (v:=.slice pr xr.length cr) rfl rfl ?_
  refine wn2 (wmv (v:=.slice pr xr.length cr) rfl rfl ?_)
  refine wl rfl (olen rfl rfl rfl Tryd.runUnderlying29 (p:=pr) (k:=xr.length) (m:=cr) (ev rfl rfl) ?_)
  refine wl rfl (omakeL (zs:=[.int .u32 0]) (k:=0) (m:=xr.length) hS rfl rfl Tryd.underlying29 infouint32 rfl rfl (by decide) rfl (evc (v:=.int .i64 ((0:Nat):Int))) (ev (v:=.int .i64 (xr.length:Int)) rfl rfl) (by omega) (by omega) (by omega) ?_)
  clear hS; intro g4 w5 hS
  refine wav (v:=.slice (some ⟨g4,0,none⟩) 0 xr.length) rfl rfl ?_
  refine wn1 (wSq (wsr (wmv (v:=.slice pr xr.length cr) rfl rfl ?_)))
  refine wl rfl (olen rfl rfl rfl Tryd.runUnderlying29 (p:=pr) (k:=xr.length) (m:=cr) (ev rfl rfl) ?_)
  refine wmvc ?_
  refine wn1 (wBk ?_)
  rw [show (List.replicate 0 (⟨[.int .u32 0],[]⟩:El)) = u32E ((xr.map (· % p)).take 0) from rfl] at hS
  refine wLp (σ := Nat) (fun k a9 w' => ∃ (fb:Nat → Value) (pO:Option Addr) (cO:Nat),a9 = act 42 (sets fb [(2,.pointer (some ⟨g1,0,none⟩)),(4,.slice none 0 0),(5,.slice pX i cX),(8,.slice pO k cO),(11,.slice pm nm cm),(12,.int .i64 (nm:Int)),(13,.int .i64 (i:Int)),(20,.slice pr xr.length cr),(21,.int .i64 (xr.length:Int)),(22,.int .i64 (k:Int))]) ∧ Sep w [.lst 24 1 pO k cO (u32E ((xr.map (· % p)).take k)),.lst 29 1 pX i cX (mmE Q),.blk g1 [.int .u64 (p:Int)] 57] w' ∧ (k ≤ xr.length)) (fun k => xr.length - k) (0) ⟨_,some ⟨g4,0,none⟩,xr.length,aSs ⟨rfl,rfl,rfl,rfl,rfl,rfl,rfl,rfl,rfl,rfl,trivial⟩,hS,Nat.zero_le _⟩ ?_
  clear hS; rintro k _ w6 ⟨fb,pO,cO,rfl,hS,hk⟩
  refine wsr ?_
  by_cases hlk:k < xr.length
  ·
   obtain ⟨bce,oce,hpce,hcce⟩:=hsr.el (show k < xr.length by omega)
   have hl9:=hsr.lim1 k
   refine wbt (u:=.int .i64 (k:Int)) (v:=.int .i64 (xr.length:Int)) rfl rfl rfl rfl (bLs (decide_eq_true (by omega))) ?_
   refine wn1 (wSq ?_)
   refine wT (ev rfl rfl) ?_
   refine wk2 (wl rfl (oIx (p:=pr) (g:=bce) (off:=oce) (m:=xr.length) (k:=k) (j:=(oce + k * 1)) rfl rfl Tryd.runUnderlying29 Tryd.sizeOf24 (ev rfl rfl) hpce (ev rfl rfl) (by omega) rfl ?_))
   refine wl rfl (oLc (v:=.int .u32 ((nd xr k:Nat):Int)) one32 rfl rfl (ev (v:=.pointer (some ⟨bce,(oce + k * 1),none⟩)) rfl rfl) (hS.cellAt (hcce 0 _ rfl)) ?_)
   refine wav (v:=.int .u32 ((nd xr k:Nat):Int)) rfl rfl ?_
   refine wn1 (wreg (wmv (v:=.slice pO k cO) rfl rfl ?_))
   refine wmv (v:=.int .u32 ((nd xr k:Nat):Int)) rfl rfl ?_
   refine wl rfl (oCv (u:=.int .u32 ((nd xr k:Nat):Int)) (v:=.int .u64 ((nd xr k:Nat):Int)) rfl rfl (ev rfl rfl) (cvI Tryd.runUnderlying24 Tryd.runUnderlying44 (wU6 (by omega) (by omega))) ?_)
   refine wl rfl (oFA (g:=g1) (off:=0) 0 rfl rfl (ev rfl rfl) Tryd.runUnderlying57 rfl Tryd.sizeOf44 rfl ?_)
   refine wl rfl (oL1 (v:=.int .u64 (p:Int)) ⟨Tryd.isAgg44,Tryd.sizeOf44⟩ hS 2 rfl rfl (ev rfl rfl) rfl rfl ?_)
   refine wbt (u:=.int .u64 ((nd xr k:Nat):Int)) (v:=.int .u64 (p:Int)) (z:=.int .u64 ((nd xr k % p:Nat):Int)) rfl rfl rfl rfl (bin_rem (by omega) rfl) ?_
   have hm9:=Nat.mod_lt (nd xr k) hp0
   refine wl rfl (oCv (u:=.int .u64 ((nd xr k % p:Nat):Int)) (v:=.int .u32 ((nd xr k % p:Nat):Int)) rfl rfl (ev rfl rfl) (cvI Tryd.runUnderlying44 Tryd.runUnderlying24 (wrap_u32 (by omega) (by omega))) ?_)
   refine wl rfl (obslice (ps:=#[(0,.int .u32 ((nd xr k % p:Nat):Int))]) (z:=.int .u32 0) [.int .u32 ((nd xr k % p:Nat):Int)] hS rfl rfl Tryd.runUnderlying29 Tryd.sizeOf24 Tryd.zeroValue24 (parts1 (ev (v:=.int .u32 ((nd xr k % p:Nat):Int)) rfl rfl)) rfl (by decide) (fill1_1s rfl rfl) ?_)
   clear hS; intro g7 w8 hS
   obtain hS:=(show Sep w [.lst 24 1 pO k cO (u32E ((xr.map (· % p)).take k)),.blk g7 [.int .u32 (((nd xr k % p:Nat):Int))] 24,.lst 29 1 pX i cX (mmE Q),.blk g1 [.int .u64 (((p:Nat):Int))] 57] w8 from hS.pick [1,0,2,3] (by decide) rfl)
   refine wl rfl (oappendL (p:=pO) (m:=k) (c:=cO) (g2:=g7) (c2:=1) (off:=0) [.int .u32 ((nd xr k % p:Nat):Int)] [] hS rfl rfl Tryd.underlying29 infouint32 rfl (by decide) (ev (v:=.slice pO k cO) rfl rfl) (ev (v:=.slice (some ⟨g7,0,none⟩) 1 1) rfl rfl) (fun j v hj => by rw [Nat.zero_add]; exact (blk_cell (hS.blkAt 1 rfl) j).trans hj) rfl rfl rfl (by omega) (by omega) ?_)
   clear hS; intro p10 c11 w9 hS
   refine wav (v:=.slice p10 ((k + 1)) c11) rfl rfl ?_
   refine wnil (blkN (tNo (wreg (wbc (u:=.int .i64 (k:Int)) (v:=.int .i64 1) (z:=.int .i64 ((k + 1:Nat):Int)) rfl rfl (bAd (wI6 (by omega) (by omega))) ?_))))
   refine wmv (v:=.int .i64 ((k + 1:Nat):Int)) rfl rfl ?_
   refine wn1 ?_
   have hnx:u32E ((xr.map (· % p)).take k) ++ [(⟨[.int .u32 ((nd xr k % p:Nat):Int)],[]⟩:El)] = u32E ((xr.map (· % p)).take (k + 1)):=by
    rw [take_next (show (xr.map (· % p))[k]? = some (nd xr k % p) by rw [List.getElem?_map,List.getElem?_eq_getElem hlk, ← nd_get hlk]; rfl),u32E_app]
   rw [hnx] at hS
   exact ⟨(k + 1),⟨_,_,_,aSs ⟨rfl,rfl,rfl,rfl,rfl,rfl,rfl,rfl,rfl,rfl,trivial⟩,hS.pick [0,2,3] (by decide) rfl,by omega⟩,by omega⟩
  refine wbt (u:=.int .i64 (k:Int)) (v:=.int .i64 (xr.length:Int)) rfl rfl rfl rfl (bLs (decide_eq_false (by omega))) ?_
  refine wn1 (wSq ?_)
  refine wF (ev rfl rfl) ?_
  refine wEx ?_
  refine tEx ?_
  refine tEx ?_
  refine blkE ?_
  refine tNo (wreg (wmv (v:=.slice pX i cX) rfl rfl ?_))
  refine wmv (v:=.slice pO k cO) rfl rfl ?_
  refine wl rfl (obslice (ps:=#[(0,.slice pO k cO)]) (z:=.slice none 0 0) [.slice pO k cO] hS rfl rfl Tryd.runUnderlying23 Tryd.sizeOf29 Tryd.zeroValue29 (parts1 (ev (v:=.slice pO k cO) rfl rfl)) rfl (by decide) (fill1_1s rfl rfl) ?_)
  clear hS; intro g7 w8 hS
  have hkl:k = xr.length:=by omega
  obtain hS:=(show Sep w [.lst 24 1 pO k cO (u32E ((xr.map (· % p)).take k)),.blk g7 [.slice pO k cO] 29,.lst 29 1 pX i cX (mmE Q),.blk g1 [.int .u64 (((p:Nat):Int))] 57] w8 from hS.pick [1,0,2,3] (by decide) rfl)
  rw [hkl,List.take_of_length_le (by rw [List.length_map]; exact Nat.le_refl _)] at hS
  obtain hS:=hS.lstRow (lims_mod hp0 hp2)
  obtain hS:=(show Sep w [.rowm pO xr.length cO (xr.map (· % p)),.lst 29 1 pX i cX (mmE Q),.blk g7 [.slice pO xr.length cO] 29,.blk g1 [.int .u64 (((p:Nat):Int))] 57] w8 from hS.pick [0,2,1,3] (by decide) rfl)
  refine wl rfl (oappendL (p:=pX) (m:=i) (c:=cX) (g2:=g7) (c2:=1) (off:=0) [.slice pO xr.length cO] [.rowm pO xr.length cO (xr.map (· % p))] hS rfl rfl Tryd.underlying23 infoRow rfl (by decide) (ev (v:=.slice pX i cX) rfl rfl) (ev (v:=.slice (some ⟨g7,0,none⟩) 1 1) rfl rfl) (fun j v hj => by rw [Nat.zero_add]; exact (blk_cell (hS.blkAt 2 rfl) j).trans hj) rfl rfl rfl (by omega) (by omega) ?_)
  clear hS; intro p10 c11 w9 hS
  refine wav (v:=.slice p10 ((i + 1)) c11) rfl rfl ?_
  refine wnil (blkN (tNo (wreg (wbc (u:=.int .i64 (i:Int)) (v:=.int .i64 1) (z:=.int .i64 ((i + 1:Nat):Int)) rfl rfl (bAd (wI6 (by omega) (by omega))) ?_))))
  refine wmv (v:=.int .i64 ((i + 1:Nat):Int)) rfl rfl ?_
  refine wn1 ?_
  rw [mmE_snoc (xs:=xr.map (· % p)) (n:=xr.length) (List.length_map _)] at hS
  exact ⟨(i + 1),⟨_,_,_,_,aSs ⟨rfl,rfl,rfl,rfl,rfl,rfl,trivial⟩,hS.pick [0,2] (by decide) rfl,by omega,by rw [nums_app,hQ,modM_take hxr]⟩,by omega⟩
 refine wbt (u:=.int .i64 (i:Int)) (v:=.int .i64 (nm:Int)) rfl rfl rfl rfl (bLs (decide_eq_false (by omega))) ?_
 refine wn1 (wSq ?_)
 refine wF (ev rfl rfl) ?_
 refine wEx ?_
 refine tEx ?_
 refine tEx ?_
 refine blkE ?_
 refine tNo (wsr (wmv (v:=.slice pX i cX) rfl rfl ?_))
 refine wav (v:=.slice pX i cX) rfl rfl ?_
 refine wn1 ?_
 refine wLv ?_
 have hin:i = nm:=by omega
 refine wr1 Tryd.results35 (tlT (v:=.slice pX i cX) rfl rfl) ?_
 exact ⟨_,_,rfl,⟨pX,cX,Q,by rw [hQ,hin,List.take_of_length_le (by have:=hm.1; omega)],by rw [hin],by rw [hin]⟩,hS.newR 0 rfl rfl⟩
def idTo (n i:Nat):List (List Nat):=mkM i n fun i k => if i = k then 1 else 0
theorem rowF_one {n i:Nat} (h:i < n):(List.replicate n 0).set i 1 = rowF n fun k => if i = k then 1 else 0:=by
  apply nd_ext (by rw [rowF_len,List.length_set,List.length_replicate])
  intro k hk
  rw [List.length_set,List.length_replicate] at hk
  rw [nd_set _ _ _ _ (by rw [List.length_replicate]; exact h),rowF_nd hk,nd_get (by rw [List.length_replicate]; exact hk),List.getElem_replicate]
  by_cases e:i = k
  · rw [if_pos e,if_pos e.symm]
  rw [if_neg e,if_neg (fun h => e h.symm)]
theorem id_next {n i:Nat} {Q:List Rw} {p:Option Addr} {c m:Nat} {xs:List Nat} (hq:nums Q = idTo n i ++ List.replicate (m + 1) []) (hx:xs = rowF n fun k => if i = k then 1 else 0):nums (Q.set i ⟨p,c,xs⟩) = idTo n (i + 1) ++ List.replicate m []:=by
  have hl:(idTo n i).length = i:=mkM_len ..
  rw [nums_set,hq,List.set_append_right _ _ (by omega),hl,Nat.sub_self,List.replicate_succ,List.set_cons_zero,show idTo n (i + 1) = idTo n i ++ [rowF n fun k => if i = k then 1 else 0] from mkM_S ..,hx,List.append_assoc]; rfl
theorem nums_rep (n:Nat) (q:Rw):nums (List.replicate n q) = List.replicate n q.xs:=by simp [nums]
theorem whidentity {n:Nat} {w:World} (hn:n ≤ 1048576) :
  Calls Tryd.prog 36 #[.int .i64 ((n:Nat):Int)] w (Ret (MMh n (oneH n)) w):=by
 have hS:=Sep.init w
 refine went Tryd.func36 rfl (n:=24) rfl rfl ?_
 refine wsr (wavc ?_)
 refine wn2 (wmv (v:=.int .i64 (n:Int)) rfl rfl ?_)
 refine wl rfl (omakeL (zs:=[.slice none 0 0]) (k:=n) (m:=n) hS rfl rfl Tryd.underlying23 infoRow rfl rfl (by decide) rfl (ev (v:=.int .i64 (n:Int)) rfl rfl) (ev (v:=.int .i64 (n:Int)) rfl rfl) (by omega) (by omega) (by omega) ?_)
 clear hS; intro g1 w2 hS
 refine wav (v:=.slice (some ⟨g1,0,none⟩) n n) rfl rfl ?_
 refine wn1 (wSq (wsr (wmv (v:=.int .i64 (n:Int)) rfl rfl ?_)))
 refine wmvc ?_
 refine wn1 (wBk ?_)
 replace hS:=hS.nilMM
 refine wLp (σ := Nat) (fun i a9 w' => ∃ (fb:Nat → Value) (Q:List Rw),a9 = act 24 (sets fb [(0,.int .i64 (n:Int)),(2,.slice none 0 0),(3,.slice (some ⟨g1,0,none⟩) n n),(7,.int .i64 (n:Int)),(8,.int .i64 (i:Int))]) ∧ Sep w [.lst 29 1 (some ⟨g1,0,none⟩) n n (mmE Q)] w' ∧ (i ≤ n) ∧ (nums Q = idTo n i ++ List.replicate (n - i) [])) (fun i => n - i) (0) ⟨_,(List.replicate n ⟨none,0,[]⟩),aSs ⟨rfl,rfl,rfl,rfl,rfl,trivial⟩,hS,Nat.zero_le _,nums_rep _ _⟩ ?_
 clear hS; rintro i _ w3 ⟨fb,Q,rfl,hS,hi,hQ⟩
 refine wsr ?_
 by_cases hli:i < n
 ·
  have hQl:Q.length = n:=by have h9:=nums_len Q; rw [hQ,List.length_append,List.length_replicate] at h9; have h8:(idTo n i).length = i:=mkM_len ..; omega
  have hrl9:(List.replicate n 0).length = n:=List.length_replicate ..
  refine wbt (u:=.int .i64 (i:Int)) (v:=.int .i64 (n:Int)) rfl rfl rfl rfl (bLs (decide_eq_true (by omega))) ?_
  refine wn1 (wSq ?_)
  refine wT (ev rfl rfl) ?_
  refine wk2 (wmv (v:=.int .i64 (i:Int)) rfl rfl ?_)
  refine wav (v:=.int .i64 (i:Int)) rfl rfl ?_
  refine wn2 (wmv (v:=.slice (some ⟨g1,0,none⟩) n n) rfl rfl ?_)
  refine wmv (v:=.int .i64 (i:Int)) rfl rfl ?_
  refine wmv (v:=.int .i64 (n:Int)) rfl rfl ?_
  refine wl rfl (omakeL (zs:=[.int .u32 0]) (k:=n) (m:=n) hS rfl rfl Tryd.underlying29 infouint32 rfl rfl (by decide) rfl (ev (v:=.int .i64 (n:Int)) rfl rfl) (ev (v:=.int .i64 (n:Int)) rfl rfl) (by omega) (by omega) (by omega) ?_)
  clear hS; intro g4 w5 hS
  obtain hS:=(show Sep w [.lst 24 1 (some ⟨g4,0,none⟩) n n (u32E (List.replicate n 0)),.lst 29 1 (some ⟨g1,0,none⟩) n n (mmE Q)] w5 from by rw [u32E_rep]; exact hS).lstRow (lims_zeros _)
  obtain ⟨q0,hq0⟩:∃ q,Q[i]? = some q:=⟨_,List.getElem?_eq_getElem (by omega)⟩
  refine wl rfl (oIx (p:=(some ⟨g1,0,none⟩)) (g:=g1) (off:=0) (m:=n) (k:=i) (j:=(0 + i * 1)) rfl rfl Tryd.runUnderlying23 Tryd.sizeOf29 (ev rfl rfl) ((rfl)) (ev rfl rfl) (by omega) rfl ?_)
  refine wl rfl (ostoreL (i:=i) (g:=g1) [.slice (some ⟨g4,0,none⟩) n n] [.rowm (some ⟨g4,0,none⟩) n n (List.replicate n 0)] Tryd.sizeOf29 hS rfl rfl (ev (v:=.pointer (some ⟨g1,(0 + i * 1),none⟩)) rfl rfl) (ev (v:=.slice (some ⟨g4,0,none⟩) n n) rfl rfl) (rfl) rfl rfl rfl (rfl) (by omega) rfl ?_)
  clear hS; intro w6 hS
  refine wn1 (wreg (wmv (v:=.slice (some ⟨g1,0,none⟩) n n) rfl rfl ?_))
  refine wmv (v:=.int .i64 (i:Int)) rfl rfl ?_
  rw [setQ (xi:=List.replicate n 0) (List.length_replicate ..)] at hS
  refine wl rfl (oIx (p:=(some ⟨g1,0,none⟩)) (g:=g1) (off:=0) (m:=n) (k:=i) (j:=(0 + i * 1)) rfl rfl Tryd.runUnderlying23 Tryd.sizeOf29 (ev rfl rfl) ((rfl)) (ev rfl rfl) (by omega) rfl ?_)
  refine wl rfl (oLc (v:=.slice ((some ⟨g4,0,none⟩)) n n) ⟨Tryd.isAgg29,Tryd.sizeOf29⟩ rfl rfl (ev (v:=.pointer (some ⟨g1,(0 + i * 1),none⟩)) rfl rfl) (hS.mRow 0 rfl (qset_self hq0) (List.length_replicate ..) (rfl)) ?_)
  refine wmv (v:=.int .i64 (i:Int)) rfl rfl ?_
  refine wl rfl (oIx (p:=((some ⟨g4,0,none⟩))) (g:=g4) (off:=0) (m:=n) (k:=i) (j:=i) rfl rfl Tryd.runUnderlying29 Tryd.sizeOf24 (ev rfl rfl) (rfl) (ev rfl rfl) (by omega) (by simp) ?_)
  refine wl rfl (ostoreM (i:=i) (g:=g4) (k:=i) (u:=1) Tryd.sizeOf24 hS rfl rfl (ev (v:=.pointer (some ⟨g4,i,none⟩)) rfl rfl) (evc (v:=.int .u32 ((1:Nat):Int))) (qset_self hq0) rfl (show i < List.length ((List.replicate n 0)) by omega) (by omega) ?_)
  clear hS; intro w7 hS
  refine wnil (blkN (tNo (wreg (wbc (u:=.int .i64 (i:Int)) (v:=.int .i64 1) (z:=.int .i64 ((i + 1:Nat):Int)) rfl rfl (bAd (wI6 (by omega) (by omega))) ?_))))
  refine wmv (v:=.int .i64 ((i + 1:Nat):Int)) rfl rfl ?_
  refine wn1 ?_
  rw [qset2] at hS
  exact ⟨(i + 1),⟨_,_,aSs ⟨rfl,rfl,rfl,rfl,rfl,trivial⟩,hS.pick [0] (by decide) rfl,by omega,id_next (m:=n - (i + 1)) (by rw [hQ]; congr 2; omega) (rowF_one hli)⟩,by omega⟩
 refine wbt (u:=.int .i64 (i:Int)) (v:=.int .i64 (n:Int)) rfl rfl rfl rfl (bLs (decide_eq_false (by omega))) ?_
 refine wn1 (wSq ?_)
 refine wF (ev rfl rfl) ?_
 refine wEx ?_
 refine tEx ?_
 refine tEx ?_
 refine blkE ?_
 refine tNo (wsr (wmv (v:=.slice (some ⟨g1,0,none⟩) n n) rfl rfl ?_))
 refine wav (v:=.slice (some ⟨g1,0,none⟩) n n) rfl rfl ?_
 refine wn1 ?_
 refine wLv ?_
 have hin:i = n:=by omega
 refine wr1 Tryd.results36 (tlT (v:=.slice (some ⟨g1,0,none⟩) n n) rfl rfl) ?_
 exact ⟨_,_,rfl,⟨_,_,Q,by rw [hQ,hin,Nat.sub_self]; exact List.append_nil _,rfl,rfl⟩,hS.newR 0 rfl rfl⟩
end Go.Proofs.YtcfcdbeemhjhgaaDoor
