/-
  Contracts and lemmas, joined in one text.
-/
import Derived.Test.YtnlnibngpeempaaGreatDoorCB
import Derived.Test.YtnlnibngpeempaaGreatDoorQA
import Derived.Test.YtnlnibngpeempaaGreatDoorRF
import Derived.Test.YtnlnibngpeempaaGreatDoorWC
import Derived.Test.YtnlnibngpeempaaGreatDoorB1
import Derived.Test.YtnlnibngpeempaaGreatDoorOP
set_option linter.unusedVariables false
set_option linter.unusedSimpArgs false
/-
  Tables of whole fractions of one's own: rows of fractions whose denominators are 1.
-/
namespace Go.Proofs.YtnlnibngpeempaaGreatDoor
open Go.RowKit
structure Iq where
  p:Option Addr
  n:Nat
  c:Nat
  q:Option Addr
  m:Nat
  d:Nat
  z:Int
def iqC (e:Iq):List Value:=[.bool (ng e.z),.slice e.p e.n e.c,.bool (ng 1),.slice e.q e.m e.d]
def iqE (e:Iq):El:=⟨[.bool (ng e.z),.slice e.p e.n e.c,.bool (ng 1),.slice e.q e.m e.d],[.rowm e.p e.n e.c (lim e.z.natAbs),.rowm e.q e.m e.d (lim (1:Int).natAbs)]⟩
def iqs (L:List Iq):List El:=L.map iqE
def izs (L:List Iq):List Int:=L.map Iq.z
structure Ir where
  p:Option Addr
  c:Nat
  L:List Iq
def irE (r:Ir):El:=⟨[.slice r.p r.L.length r.c],[.lst 43 4 r.p r.L.length r.c (iqs r.L)]⟩
def itE (T:List Ir):List El:=T.map irE
def itv (T:List Ir):List (List Int):=T.map fun r => izs r.L
theorem lst_cell {w:World} {e:TypeId} {sz n c:Nat} {p:Option Addr} {es:List El} (h:(Res.lst e sz p n c es).holds w) {i:Nat} {el:El} (hi:es[i]? = some el) (hs:0 < sz) :
  ∃ g,p = some ⟨g,0,none⟩ ∧ (∀ j v,el.cs[j]? = some v → w.cell? ⟨g,0 + i * sz + j,none⟩ = some v) ∧ ∀ r ∈ el.rs,r.holds w:=by
 obtain ⟨h1,h2,h3,h4⟩:=h
 have hin:i < es.length:=(List.getElem?_eq_some_iff.1 hi).1
 have ho:=h3 _ List.mem_cons_self
 have hp:∃ g,p = some ⟨g,0,none⟩:=by
  rcases ho.2 with ⟨_,h0⟩ | ⟨g,_,_,hg,_⟩
  ·omega
  simp only [Value.slice.injEq] at hg; exact ⟨g,hg.1⟩
 obtain ⟨g,rfl⟩:=hp
 refine ⟨g,rfl,fun j v hj => ?_,fun r hr => h3 r (List.mem_cons_of_mem _ (List.mem_flatMap.2 ⟨el,List.mem_of_getElem? hi,hr⟩))⟩
 have hjs:j < sz:=by
  have:=(h1 el (List.mem_of_getElem? hi)).1
  have:=(List.getElem?_eq_some_iff.1 hj).1
  omega
 have hc:=h1.cell hi j hjs
 rw [hj] at hc
 have:=ho.cells (g:=g) rfl (i * sz + j) v hc
 rw [Addr.add_mid] at this
 rw [← this,Nat.zero_add]
 simp
def TW (T:List (List Int)) (K:Nat):Prop := ∀ L ∈ T, ∀ z ∈ L,Wd z K
def RTb (w:World) (p:Option Addr) (n:Nat) (T:List (List Int)) (K:Nat):Prop:=T.length = n ∧ n ≤ 1048576 ∧ ∀ (i:Nat) (L:List Int),T[i]? = some L → ∃ b off q c,p = some ⟨b,off,none⟩ ∧ (∀ j v,[Value.slice q L.length c][j]? = some v → w.cell? ⟨b,off + i * 1 + j,none⟩ = some v) ∧ Rs w q L.length (L.map fun z => (z,1)) K
theorem RTb.at {w w':World} {R:List Res} {p:Option Addr} {n K:Nat} {T:List (List Int)} (h:RTb w p n T K) (hS:Sep w R w'):RTb w' p n T K:=by
  refine ⟨h.1,h.2.1,fun i L hL => ?_⟩
  obtain ⟨b,off,q,c,hp,hc,hs⟩:=h.2.2 i L hL
  exact ⟨b,off,q,c,hp,fun j v hj => hS.cellAt (hc j v hj),hs.at hS⟩
def IQt (n:Nat) (TT:List (List Int)):Tell:=fun v r => ∃ (pp:Option Addr) (c:Nat) (T:List Ir),itv T = TT ∧ v = .slice pp n c ∧ r = [.lst 39 1 pp n c (itE T)]
def MTt (n:Nat) (T:List (List Int)) (K:Nat):Tell:=fun v r => ∃ (pd:Option Addr) (nd' cd:Nat) (ps:Option Addr) (cs:Nat) (rs:List Res),v = .agg #[.bool (ng 1),.slice pd nd' cd,.slice ps n cs] ∧ r = [.row pd nd' cd (lim (1:Int).natAbs),.pack rs] ∧ ∀ w,(Res.pack rs).holds w → TB w ps n T K
section
variable {x u:Int} {bA bB bC bD:Bool} {qA qB qC qD:Option Addr} {nA kA nB kB nC kC nD kD:Nat} {w:World}
end
open Go.RowKit
section
variable {P:Program} {o:Oper} {n:Nat} {f:Nat → Value} {w w0:World} {R:List Res} {K:Act → World → Prop} {Q':Exit → Act → World → Prop} {d:Nat}
theorem oappendC {t e:TypeId} {x y:Operand} {z:Value} {sz by':Nat} {p:Option Addr} {a:Addr} {m c k c2:Nat} {es:List El} (es2:List El)
  (hS:Sep w0 (.lst e sz p m c es :: R) w) (hop:o.op = .call { callee:=.builtin .append,args:=#[x,y],argTypes:=#[t,t] }) (ho:o.dst = some d) (ht:P.underlying t = some (.slice e)) (hi:(P.info? e).map (fun i => (i.zero,i.size,i.bytes)) = some (some z,sz,by')) (hzs:z.cells.size = sz) (hsz:0 < sz)
  (hx:(act n f).eval x = .slice p m c) (hy:(act n f).eval y = .slice (some a) k c2) (hE2:Els sz es2) (hr2:flatR es2 = []) (hl2:es2.length = k) (hnews:∀ j u,(flatC es2)[j]? = some u → w.cell? (a.add j) = some u) (h0:0 < k) (hm:(m + k) * by' ≤ 140737488355328) (hm2:m + k ≤ 1073741824)
  (hK:∀ p' c' w',Sep w0 (.lst e sz p' (m + k) c' (es ++ es2) :: R) w' → K (act n (upd f d (.slice p' (m + k) c'))) w'):OW P o (act n f) w K Q':=by
 rcases hi':P.info? e with _ | i
 ·rw [hi'] at hi; cases hi
 rw [hi'] at hi
 simp only [Option.map_some,Option.some.injEq,Prod.mk.injEq] at hi
 obtain ⟨hi1,hi2,hi3⟩:=hi
 obtain ⟨hE,hle,hS'⟩:=hS.openL
 have hown:=(show (Res.own' e sz p m c (flatC es)).holds w from hS'.holds _ List.mem_cons_self)
 have hcl:(flatC es2).length = k * sz:=by rw [hE2.len,hl2]
 obtain ⟨p',c',w',hrun,ho',hg,hp'⟩:=run_appendAt (P:=P) (w:=w) (ty:=o.type) (c2:=c2) ht hi' hi1 hi2 hi3 hzs hsz hown (a:=a) (k:=k) (news:=flatC es2) hcl hnews (fun u hu => by
  unfold flatC at hu
  obtain ⟨el,hel,hu2⟩:=List.mem_flatMap.1 hu
  exact List.all_eq_true.1 (hE2 el hel).2.1 u hu2) h0 (by simp only [maxLen]; omega) hm
 have hS2:=hS'.grownL hg ho' hp'
 have hfin:Sep w0 (.lst e sz p' (m + k) c' (es ++ es2) :: R) w':=by
  refine Sep.closeL (fun el hel => (List.mem_append.1 hel).elim (hE el) (hE2 el)) (by rw [List.length_append,hle,hl2]) ?_
  rw [flatC_app,flatR_app,hr2,List.append_nil]
  exact hS2
 refine ⟨?_⟩
 have:=hK _ _ _ hfin
 unfold Oper.wp execOp
 simp only [hop,resolve,invoke,builtin,Sem.run_bind,Sem.run_pure,Result.andThen_ok,List.map_toArray,List.map_cons,List.map_nil,hx,hy,hrun]
 show K ((act n f).put o.dst _) w'
 rw [ho,act_put]
 exact this
theorem osliceB {t e:TypeId} {x lo hi mx:Operand} {g m c l h sz:Nat} {p:Option Addr} (hop:o.op = .slice t x (some lo) (some hi) (some mx)) (ho:o.dst = some d) (ht:P.underlying t = some (.slice e)) (hs:∀ w,(sizeOf e).run P w = .ok sz w)
  (hx:(act n f).eval x = .slice p m c) (hp:p = some ⟨g,0,none⟩) (hl:(act n f).eval lo = .int .i64 (l:Int)) (hh:(act n f).eval hi = .int .i64 (h:Int)) (hm:(act n f).eval mx = .int .i64 (h:Int)) (h1:l < h) (h2:h ≤ c)
  (hK:K (act n (upd f d (.slice (some ⟨g,0 + l * sz,none⟩) (h - l) (h - l)))) w):OW P o (act n f) w K Q':=by
 have he:P.elem t = e:=by simp [Program.elem,ht]
 refine oval ho ?_ rfl hK
 have h3:(Instr.slice t (.slice p m c) (some (.int .i64 (l:Int))) (some (.int .i64 (h:Int))) (some (.int .i64 (h:Int)))).run P w = .ok (.slice (some ⟨g,0 + l * sz,none⟩) (h - l) (h - l)) w:=by
  rw [run_slice_lhm w t _ m c (by rw [he]; exact ht) .i64 .i64 .i64 (l:Int) (h:Int) (h:Int) (by omega) (by omega) (by omega) (by omega),he,hs,Result.andThen_ok]
  subst hp
  have e1:((h:Int) - (l:Int)).toNat = h - l:=by omega
  simp only [sliced,Int.toNat_natCast,e1]
  rw [if_neg (by omega),Option.map_some,Addr.add_mid]
 simp [execOp,hop,hx,hl,hh,hm,h3,run_sliceAt_slice w t _ _ _ _ (by rw [he]; exact ht)]
end
open Go Lib
theorem lcm_div {D a b:Nat} (hD:0 < D) (ha:a ∣ D) (hb:b ∣ D):Nat.lcm (D / a) (D / b) = D / Nat.gcd a b:=by
 have ha0:0 < a:=Nat.pos_of_dvd_of_pos ha hD
 have hg0:0 < Nat.gcd a b:=Nat.gcd_pos_of_pos_left b ha0
 have hg:Nat.gcd a b ∣ D:=Nat.dvd_trans (Nat.gcd_dvd_left a b) ha
 apply Nat.dvd_antisymm
 ·refine Nat.lcm_dvd ?_ ?_
  ·obtain ⟨k,hk⟩:=ha
   obtain ⟨l,hl⟩:=Nat.gcd_dvd_left a b
   refine ⟨l,?_⟩
   apply Nat.div_eq_of_eq_mul_right hg0
   rw [show D / a = k from Nat.div_eq_of_eq_mul_right ha0 hk]
   generalize Nat.gcd a b = g at hl
   subst hl
   rw [hk]; grind
  have hb0:0 < b:=Nat.pos_of_dvd_of_pos hb hD
  obtain ⟨k,hk⟩:=hb
  obtain ⟨l,hl⟩:=Nat.gcd_dvd_right a b
  refine ⟨l,?_⟩
  apply Nat.div_eq_of_eq_mul_right hg0
  rw [show D / b = k from Nat.div_eq_of_eq_mul_right hb0 hk]
  generalize Nat.gcd a b = g at hl
  subst hl
  rw [hk]; grind
 apply Nat.dvd_of_mul_dvd_mul_left hg0
 rw [Nat.mul_div_cancel' hg, ← Nat.gcd_mul_right]
 refine Nat.dvd_gcd ?_ ?_
 ·have h:=Nat.mul_dvd_mul_left a (Nat.dvd_lcm_left (D / a) (D / b))
  rwa [Nat.mul_div_cancel' ha] at h
 have h:=Nat.mul_dvd_mul_left b (Nat.dvd_lcm_right (D / a) (D / b))
 rwa [Nat.mul_div_cancel' hb] at h
def gz (g:Nat):List Int → Nat
  | [] => g
  | x :: l => gz (Nat.gcd g x.natAbs) l
theorem gz_dvd (g:Nat):∀ l,gz g l ∣ g
  | [] => Nat.dvd_refl _
  | x :: l => Nat.dvd_trans (gz_dvd _ l) (Nat.gcd_dvd_left _ _)
theorem gz_gcd:∀ (l:List Int) (g D:Nat),Nat.gcd (gz g l) D = gz (Nat.gcd g D) l
  | [],_,_ => rfl
  | x :: l,g,D => by rw [gz,gz_gcd l,gz,Nat.gcd_assoc,Nat.gcd_comm x.natAbs D, ← Nat.gcd_assoc]
theorem gz_mem:∀ {l:List Int} {g:Nat} {x:Int},x ∈ l → gz g l ∣ x.natAbs
 | y :: l,g,x,h => by
  rcases List.mem_cons.1 h with rfl | h
  ·exact Nat.dvd_trans (gz_dvd _ l) (Nat.gcd_dvd_right _ _)
  show gz (Nat.gcd g y.natAbs) l ∣ _; exact gz_mem h
def lz (D d:Nat):List Int → Nat
  | [] => d
  | x :: l => lz D (Nat.lcm d (D / Nat.gcd x.natAbs D)) l
theorem lz_eq {D:Nat} (hD:0 < D):∀ (l:List Int) (h:Nat),h ∣ D → lz D (D / h) l = D / gz h l
 | [],_,_ => rfl
 | x :: l,h,hh => by
  rw [lz,gz,lcm_div hD hh (Nat.gcd_dvd_right _ _)]
  have e:Nat.gcd h (Nat.gcd x.natAbs D) = Nat.gcd h x.natAbs:=by
   rw [← Nat.gcd_assoc]; exact Nat.gcd_eq_left (Nat.dvd_trans (Nat.gcd_dvd_left _ _) hh)
  rw [e]
  exact lz_eq hD l _ (Nat.dvd_trans (Nat.gcd_dvd_left _ _) hh)
theorem lz_all {D:Nat} (hD:0 < D) (l:List Int):lz D 1 l = D / Nat.gcd (gz 0 l) D:=by
  have h:=lz_eq hD l D (Nat.dvd_refl D)
  rw [Nat.div_self hD] at h
  rw [h,gz_gcd,Nat.gcd_zero_left]
open Go Lib Go.RowKit
def gI (D:Int) (l:List Int):Int:=((Nat.gcd (gz 0 l) D.natAbs:Nat):Int)
def gS (D:Int) (l:List Int):Int:=if D < 0 then -(gI D l) else gI D l
def mdD (D:Int) (l:List Int):Int:=D.tdiv (gS D l)
def mdX (D:Int) (l:List Int) (x:Int):Int:=x.tdiv (gS D l)
def mdT (D:Int) (T:List (List Int)):List (List Int):=T.map fun L => L.map (mdX D T.flatten)
section
variable {D x:Int} {l:List Int}
theorem gI_pos (hD:D ≠ 0):0 < gI D l:=by
  have:0 < Nat.gcd (gz 0 l) D.natAbs:=Nat.gcd_pos_of_pos_right _ (by omega)
  unfold gI; omega
theorem gS_ne (hD:D ≠ 0):gS D l ≠ 0:=by have:=gI_pos (l:=l) hD; unfold gS; split <;> omega
theorem gS_abs:(gS D l).natAbs = Nat.gcd (gz 0 l) D.natAbs:=by unfold gS gI; split <;> omega
theorem gS_dvdD:gS D l ∣ D:=Int.natAbs_dvd_natAbs.1 (by rw [gS_abs]; exact Nat.gcd_dvd_right _ _)
theorem gS_dvdX (h:x ∈ l):gS D l ∣ x:=Int.natAbs_dvd_natAbs.1 (by rw [gS_abs]; exact Nat.dvd_trans (Nat.gcd_dvd_left _ _) (gz_mem h))
theorem nD_mul:gS D l * mdD D l = D:=Int.mul_tdiv_cancel' gS_dvdD
theorem nX_mul (h:x ∈ l):gS D l * mdX D l x = x:=Int.mul_tdiv_cancel' (gS_dvdX h)
theorem nD_nat (hD:D ≠ 0):mdD D l = ((D.natAbs / Nat.gcd (gz 0 l) D.natAbs:Nat):Int):=by
 have h:=nD_mul (D:=D) (l:=l)
 have hg:=gI_pos (l:=l) hD
 have hp:0 ≤ mdD D l:=by
  unfold mdD gS
  split
  ·have e:D.tdiv (-gI D l) = (-D).tdiv (gI D l):=by rw [Int.tdiv_neg,Int.neg_tdiv]
   rw [e]; exact Int.tdiv_nonneg (by omega) (by omega)
  exact Int.tdiv_nonneg (by omega) (by omega)
 have e:(mdD D l).natAbs = D.natAbs / Nat.gcd (gz 0 l) D.natAbs:=by unfold mdD; rw [Int.natAbs_tdiv,gS_abs]; rfl
 omega
theorem nD_pos (hD:D ≠ 0):0 < mdD D l:=by
  have h:=nD_mul (D:=D) (l:=l)
  have h2:=nD_nat (l:=l) hD
  rcases Int.lt_trichotomy (mdD D l) 0 with h3 | h3 | h3
  · rw [h2] at h3; exact absurd h3 (Int.not_lt.2 (Int.natCast_nonneg _))
  · rw [h3,Int.mul_zero] at h; omega
  exact h3
theorem n_low (hD:D ≠ 0) (h:x ∈ l):RN (mdX D l x) (mdD D l) = RN x D ∧ RD (mdX D l x) (mdD D l) = RD x D:=by
  refine R_same (by have:=nD_pos (l:=l) hD; omega) hD ?_
  have h1:=nX_mul (D:=D) h
  have h2:=nD_mul (D:=D) (l:=l)
  generalize mdX D l x = a at *
  generalize mdD D l = b at *
  generalize gS D l = k at *
  rw [← h1, ← h2]; grind
theorem RD_nat (hD:D ≠ 0):RD x D = ((D.natAbs / Nat.gcd x.natAbs D.natAbs:Nat):Int):=by
  have h:=RD_pos (x:=x) hD
  have e:(RD x D).natAbs = D.natAbs / Nat.gcd x.natAbs D.natAbs:=by unfold RD; rw [Int.natAbs_tdiv,sgd_natAbs]; rfl
  omega
theorem foldl_lz (hD:D ≠ 0):∀ (l:List Int) (d:Nat),(l.map fun x => RD x D).foldl lcmZ (d:Int) = ((lz D.natAbs d l:Nat):Int)
 | [],_ => rfl
 | x :: l,d => by
  rw [List.map_cons,List.foldl_cons,lz, ← foldl_lz hD l,RD_nat hD]; rfl
theorem den_same (hD:D ≠ 0) (l:List Int):(l.map fun x => RD x D).foldl lcmZ 1 = mdD D l:=by
  rw [show (1:Int) = ((1:Nat):Int) from rfl,foldl_lz hD,lz_all (by omega),nD_nat hD]
theorem foldl_lcm_dvd {l:List Int}:∀ {d:Int},d ∣ D → (∀ x ∈ l,x ∣ D) → l.foldl lcmZ d ∣ D:=by
 induction l with
 | nil => intro d h _; exact h
 | cons x l ih =>
  intro d h hl
  rw [List.foldl_cons]
  refine ih ?_ fun y hy => hl y (List.mem_cons_of_mem _ hy)
  have h2:=hl x List.mem_cons_self
  exact Int.natAbs_dvd_natAbs.1 (show Nat.lcm d.natAbs x.natAbs ∣ D.natAbs from Nat.lcm_dvd (Int.natAbs_dvd_natAbs.2 h) (Int.natAbs_dvd_natAbs.2 h2))
theorem RD_dvd:RD x D ∣ D:=⟨sgd x D,by rw [Int.mul_comm]; exact (RD_mul x D).symm⟩
theorem nX_num (hD:D ≠ 0) (h:x ∈ l):RN x D * (mdD D l).tdiv (RD x D) = mdX D l x:=by
 obtain ⟨h1,h2⟩:=n_low hD h
 rw [← h1, ← h2]
 have hd:=nD_pos (l:=l) hD
 generalize mdX D l x = a at *
 generalize mdD D l = b at *
 have h3:=RD_pos (x:=a) (y:=b) (by omega)
 have e:b.tdiv (RD a b) = sgd a b:=by
  have h4:=RD_mul a b
  have h5:(sgd a b * RD a b).tdiv (RD a b) = sgd a b:=Int.mul_tdiv_cancel _ (by omega)
  rwa [h4] at h5
 rw [e,Int.mul_comm]; exact RN_mul a b
end
theorem sgn_ng {z s:Int} (h:Hid (z.sign = s)):s < 0 ↔ z < 0:=by
  rw [← h.out]
  exact Int.sign_neg_iff
def hg1 (h:Nat) (e:Int × Int):Nat:=max (max h (blen e.1.natAbs)) (blen e.2.natAbs)
theorem hgt_eq (L:List (Int × Int)):hgt L L.length = L.foldl hg1 0:=by
  unfold hgt; rw [List.take_length]; rfl
theorem hg_from:∀ (L:List (Int × Int)) (h:Nat),L.foldl hg1 h = max h (L.foldl hg1 0)
 | [],h => by simp
 | e :: L,h => by
  rw [List.foldl_cons,List.foldl_cons,hg_from L (hg1 h e),hg_from L (hg1 0 e)]
  unfold hg1; omega
def hgR (T:List (List (Int × Int))):Nat → Nat
  | 0 => 0
  | i + 1 => max (hgR T i) ((T.getD i []).foldl hg1 0)
theorem hgR_flat (T:List (List (Int × Int))):∀ i,hgR T i = ((T.take i).flatten).foldl hg1 0
 | 0 => rfl
 | i + 1 => by
  rw [hgR,hgR_flat T i]
  by_cases hi:i < T.length
  ·rw [List.take_add_one,List.getElem?_eq_getElem hi,show T.getD i [] = T[i] by simp [List.getD,hi]]
   simp only [Option.toList,List.flatten_append,List.flatten_cons,List.flatten_nil,List.append_nil,List.foldl_append]
   exact (hg_from _ _).symm
  rw [List.take_of_length_le (show T.length ≤ i + 1 by omega),List.take_of_length_le (show T.length ≤ i by omega),show T.getD i [] = [] by simp [List.getD,show T.length ≤ i by omega]]
  simp
section
variable {a b D:Int}
theorem R_sum (hD:D ≠ 0):RN (RN a D * RD b D + RN b D * RD a D) (RD a D * RD b D) = RN (a + b) D ∧ RD (RN a D * RD b D + RN b D * RD a D) (RD a D * RD b D) = RD (a + b) D:=by
  have h1:=R_cross a D
  have h2:=R_cross b D
  have p1:=RD_pos (x:=a) hD
  have p2:=RD_pos (x:=b) hD
  refine R_same (Int.mul_ne_zero (by omega) (by omega)) hD ?_
  generalize RN a D = x at *
  generalize RN b D = y at *
  generalize RD a D = u at *
  generalize RD b D = v at *
  grind
theorem R_neg (hD:D ≠ 0):RN (-(RN a D)) (RD a D) = RN (-a) D ∧ RD (-(RN a D)) (RD a D) = RD (-a) D:=by
  have h1:=R_cross a D
  have p1:=RD_pos (x:=a) hD
  refine R_same (by omega) hD ?_
  generalize RN a D = x at *
  generalize RD a D = u at *
  grind
theorem RN_lt (hD:0 < D):RN a D < 0 ↔ a < 0:=by
  have h:=RN_sign (x:=a) (y:=D) (by omega)
  rw [Int.sign_eq_one_of_pos hD,Int.mul_one] at h
  rw [← Int.sign_eq_neg_one_iff_neg, ← Int.sign_eq_neg_one_iff_neg (a:=a),h]
theorem cmp_R (hD:0 < D):0 < cmpQ (RN a D) (RD a D) (RN b D) (RD b D) ↔ b < a:=by
 have h1:=R_cross a D
 have h2:=R_cross b D
 have p1:=RD_pos (x:=a) (y:=D) (by omega)
 have p2:=RD_pos (x:=b) (y:=D) (by omega)
 unfold cmpQ
 generalize RN a D = x at *
 generalize RN b D = y at *
 generalize RD a D = u at *
 generalize RD b D = v at *
 have e:(x * v - y * u) * D = (a - b) * (u * v):=by grind
 have q:0 < u * v:=Int.mul_pos p1 p2
 have s1:((x * v - y * u) * (u * v)).sign = (a - b).sign:=by
  have e1:((x * v - y * u) * D).sign = ((a - b) * (u * v)).sign:=by rw [e]
  rw [Int.sign_mul,Int.sign_mul,Int.sign_eq_one_of_pos hD,Int.sign_eq_one_of_pos q,Int.mul_one,Int.mul_one] at e1
  rw [Int.sign_mul,Int.sign_eq_one_of_pos q,Int.mul_one,e1]
 rw [s1,Int.sign_pos_iff]; omega
end
open Go.RowKit
theorem Sep.newA {S:List Res} {w w':World} (h:Sep w S w') (ha:S.all (fun r => !r.arg) = true):New w S w' :=
  ⟨h.below,h.holds,fun r hr g hg => h.low r hr (by have:=List.all_eq_true.1 ha r hr; simpa using this) g hg,h.apart⟩
structure Fq where
  p:Option Addr
  n:Nat
  c:Nat
  q:Option Addr
  m:Nat
  d:Nat
  z:Int
  y:Int
def fqC (e:Fq):List Value:=[.bool (ng e.z),.slice e.p e.n e.c,.bool (ng e.y),.slice e.q e.m e.d]
def fqE (e:Fq):El:=⟨[.bool (ng e.z),.slice e.p e.n e.c,.bool (ng e.y),.slice e.q e.m e.d],[.rowm e.p e.n e.c (lim e.z.natAbs),.rowm e.q e.m e.d (lim e.y.natAbs)]⟩
def fqs (L:List Fq):List El:=L.map fqE
def fqv (L:List Fq):List (Int × Int):=L.map fun e => (e.z,e.y)
structure Fw where
  p:Option Addr
  c:Nat
  L:List Fq
def fwE (r:Fw):El:=⟨[.slice r.p r.L.length r.c],[.lst 43 4 r.p r.L.length r.c (fqs r.L)]⟩
def ftE (T:List Fw):List El:=T.map fwE
def ftv (T:List Fw):List (List (Int × Int)):=T.map fun r => fqv r.L
theorem take_nx {α : Type} {L:List α} {i:Nat} {x : α} (h:L[i]? = some x):L.take (i + 1) = L.take i ++ [x]:=by
  rw [List.take_add_one,h]; rfl
theorem fqs_len (L:List Fq):(fqs L).length = L.length:=List.length_map _
theorem fqv_len (L:List Fq):(fqv L).length = L.length:=List.length_map _
theorem ftv_len (T:List Fw):(ftv T).length = T.length:=List.length_map _
theorem fqv_snoc (L:List Fq) (e:Fq):fqv (L ++ [e]) = fqv L ++ [(e.z,e.y)]:=by simp [fqv]
theorem ftv_snoc (T:List Fw) (r:Fw):ftv (T ++ [r]) = ftv T ++ [fqv r.L]:=by simp [ftv]
theorem fq_snoc {L:List Fq} {p q:Option Addr} {n c m d:Nat} {z y:Int}:fqs L ++ [(⟨[.bool (ng z),.slice p n c,.bool (ng y),.slice q m d],[.rowm p n c (lim z.natAbs),.rowm q m d (lim y.natAbs)]⟩:El)] = fqs (L ++ [⟨p,n,c,q,m,d,z,y⟩]):=by simp [fqs,fqE]
theorem ft_snoc {T:List Fw} {p:Option Addr} {n c:Nat} {L:List Fq} (h:L.length = n):ftE T ++ [⟨[.slice p n c],[.lst 43 4 p n c (fqs L)]⟩] = ftE (T ++ [⟨p,c,L⟩]):=by subst h; simp [ftE,fwE]
def nilF:El:=⟨[.bool false,.slice none 0 0,.bool false,.slice none 0 0],[]⟩
theorem fillF {L:List Fq} {k m:Nat} {e:Fq} (hk:L.length = k):(fqs L ++ List.replicate (m + 1) nilF).set k (fqE e) = fqs (L ++ [e]) ++ List.replicate m nilF:=by
  rw [List.set_append_right _ _ (by rw [fqs_len]; omega),fqs_len,hk,Nat.sub_self,List.replicate_succ,List.set_cons_zero]
  unfold fqs; rw [List.map_append,List.append_assoc]; rfl
theorem infoRRo:(Tryz.prog.info? 39).map (fun i => (i.zero,i.size,i.bytes)) = some (some (.slice none 0 0),1,24):=by kernel_rfl
theorem infoIRo:(Tryz.prog.info? 32).map (fun i => (i.zero,i.size,i.bytes)) = some (some (.slice none 0 0),1,24):=by kernel_rfl
def RQb (w:World) (p:Option Addr) (n:Nat) (T:List (List (Int × Int))) (K:Nat):Prop:=T.length = n ∧ n ≤ 1048576 ∧ ∀ (i:Nat) (L:List (Int × Int)),T[i]? = some L → ∃ b off q c,p = some ⟨b,off,none⟩ ∧ (∀ j v,[Value.slice q L.length c][j]? = some v → w.cell? ⟨b,off + i * 1 + j,none⟩ = some v) ∧ Rs w q L.length L K
theorem RQb.at {w w':World} {R:List Res} {p:Option Addr} {n K:Nat} {T:List (List (Int × Int))} (h:RQb w p n T K) (hS:Sep w R w'):RQb w' p n T K:=by
  refine ⟨h.1,h.2.1,fun i L hL => ?_⟩
  obtain ⟨b,off,q,c,hp,hc,hs⟩:=h.2.2 i L hL
  exact ⟨b,off,q,c,hp,fun j v hj => hS.cellAt (hc j v hj),hs.on hS.below (Nat.le_refl _)⟩
def FW (L:List (Int × Int)) (K:Nat):Prop := ∀ e ∈ L,Wd e.1 K ∧ Wd e.2 K
theorem fl_rs {w:World} {t:TypeId} {p:Option Addr} {n c K:Nat} {L:List Fq} (h:(Res.lst t 4 p n c (fqs L)).holds w) (hW:FW (fqv L) K) (hn:n ≤ 1048576):Rs w p n (fqv L) K:=by
  have hl:(fqs L).length = n:=h.2.1
  refine ⟨by rw [fqv_len, ← fqs_len,hl],hn,fun i e he => ?_⟩
  have hm:=List.mem_of_getElem? he
  unfold fqv at he
  rw [List.getElem?_map] at he
  obtain ⟨q,hq,rfl⟩:=Option.map_eq_some_iff.1 he
  obtain ⟨g,h1,h2,h3⟩:=lst_cell h (show (fqs L)[i]? = some (fqE q) by simp [fqs,hq]) (by decide)
  have f1:Fr 0 w q.p q.n q.c (lim q.z.natAbs):=h3 _ List.mem_cons_self
  have f2:Fr 0 w q.q q.m q.d (lim q.y.natAbs):=h3 _ (List.mem_cons_of_mem _ List.mem_cons_self)
  exact ⟨g,0,_,_,_,_,_,_,_,_,h1,h2,f1.sl.zr (hW _ hm).1,f2.sl.zr (hW _ hm).2⟩
theorem Sep.ftb {w0 w:World} {R:List Res} (hS:Sep w0 R w) (k:Nat) {t:TypeId} {p:Option Addr} {n c K:Nat} {T:List Fw} {TT:List (List (Int × Int))} (hk:R[k]? = some (.lst t 1 p n c (ftE T))) (hT:ftv T = TT) (hW:∀ L ∈ TT,FW L K) (hn:n ≤ 1048576) (hb:∀ L ∈ TT,L.length ≤ 1048576):RQb w p n TT K:=by
  subst hT
  have h:(Res.lst t 1 p n c (ftE T)).holds w:=hS.get k hk
  have hl:(ftE T).length = n:=h.2.1
  refine ⟨by rw [ftv_len, ← hl]; exact (List.length_map _).symm,hn,fun i L hL => ?_⟩
  have hm:=List.mem_of_getElem? hL
  unfold ftv at hL
  rw [List.getElem?_map] at hL
  obtain ⟨r,hr,rfl⟩:=Option.map_eq_some_iff.1 hL
  obtain ⟨g,h1,h2,h3⟩:=lst_cell h (show (ftE T)[i]? = some (fwE r) by simp [ftE,hr]) (by decide)
  refine ⟨g,0,r.p,r.c,h1,fun j v hj => h2 j v (by rw [fqv_len] at hj; exact hj),?_⟩
  have h4:=fl_rs (h3 _ List.mem_cons_self) (hW _ hm) (by have:=hb _ hm; rwa [fqv_len] at this)
  rwa [fqv_len]
def FQt (n:Nat) (TT:List (List (Int × Int))):Tell:=fun v r => ∃ (pp:Option Addr) (c:Nat) (T:List Fw),ftv T = TT ∧ v = .slice pp n c ∧ r = [.lst 39 1 pp n c (ftE T)]
def FQe (n:Nat) (TT:List (List (Int × Int))):Tell:=fun v r => ∃ (pp:Option Addr) (c:Nat) (T:List Fw),ftv T = TT ∧ v = .tuple #[.slice pp n c,.int .i64 0] ∧ r = [.lst 39 1 pp n c (ftE T)]
def AllF (w:World) (es:List El) (F:List (Int × Int)) (K:Nat):Prop:=es.length = F.length ∧ Els 4 es ∧ flatR es = [] ∧ ∀ (i:Nat) (e:Int × Int),F[i]? = some e → ∃ b q n k b2 q2 n2 k2,es[i]? = some ⟨[.bool b,.slice q n k,.bool b2,.slice q2 n2 k2],[]⟩ ∧ Zr w b q n k e.1 K ∧ Zr w b2 q2 n2 k2 e.2 K
theorem AllF.nil (w:World) (K:Nat):AllF w [] [] K:=⟨rfl,Els.nil,rfl,fun i z h => by simp at h⟩
theorem AllF.app {w:World} {es es2:List El} {F L:List (Int × Int)} {K:Nat} (h:AllF w es F K) (h2:AllF w es2 L K):AllF w (es ++ es2) (F ++ L) K:=by
 refine ⟨by rw [List.length_append,List.length_append,h.1,h2.1],fun el hel => (List.mem_append.1 hel).elim (h.2.1 el) (h2.2.1 el),by rw [flatR_app,h.2.2.1,h2.2.2.1]; rfl,fun i z hi => ?_⟩
 by_cases e:i < F.length
 ·rw [List.getElem?_append_left e] at hi
  obtain ⟨b,q,n,k,b2,q2,n2,k2,h3,h4⟩:=h.2.2.2 i z hi
  exact ⟨b,q,n,k,b2,q2,n2,k2,by rw [List.getElem?_append_left (by rw [h.1]; exact e)]; exact h3,h4⟩
 rw [List.getElem?_append_right (by omega)] at hi
 obtain ⟨b,q,n,k,b2,q2,n2,k2,h3,h4⟩:=h2.2.2.2 _ z hi
 exact ⟨b,q,n,k,b2,q2,n2,k2,by rw [List.getElem?_append_right (by rw [h.1]; omega),h.1]; exact h3,h4⟩
theorem AllF.one {w:World} {b b2:Bool} {q q2:Option Addr} {n k n2 k2 K:Nat} {e:Int × Int} (h1:Zr w b q n k e.1 K) (h2:Zr w b2 q2 n2 k2 e.2 K):AllF w [⟨[.bool b,.slice q n k,.bool b2,.slice q2 n2 k2],[]⟩] [e] K:=by
 refine ⟨rfl,fun el hel => ?_,rfl,fun i z hi => ?_⟩
 ·rw [List.mem_singleton.1 hel]; exact ⟨rfl,rfl,fun r hr => by cases hr⟩
 have h0:i = 0:=by have:=(List.getElem?_eq_some_iff.1 hi).1; simp at this; omega
 subst h0
 simp at hi
 subst hi
 exact ⟨_,_,_,_,_,_,_,_,rfl,h1,h2⟩
theorem AllF.rs {w w':World} {R:List Res} (hS:Sep w R w') (k:Nat) {t:TypeId} {p:Option Addr} {m c K:Nat} {es:List El} {F:List (Int × Int)} (hk:R[k]? = some (.lst t 4 p m c es)) (h:AllF w es F K) (hm:m ≤ 1048576):Rs w' p m F K:=by
  have hl:=hS.lstLen k hk
  refine ⟨by rw [← h.1]; exact hl.symm,hm,fun i e he => ?_⟩
  obtain ⟨b,q,n,k2,b2,q2,n2,k3,h1,h2,h3⟩:=h.2.2.2 i e he
  obtain ⟨g,h4,h5,_⟩:=hS.lstCell k hk h1 (by decide)
  exact ⟨g,0,b,q,n,k2,b2,q2,n2,k3,h4,h5,h2.at hS,h3.at hS⟩
theorem rs_elsF {w:World} {g off n K:Nat} {L:List (Int × Int)} (h:Rs w (some ⟨g,off,none⟩) n L K):∃ es2,AllF w es2 L K ∧ ∀ j u,(flatC es2)[j]? = some u → w.cell? ((⟨g,off,none⟩:Addr).add j) = some u:=by
 have hc:∀ i, ∃ cs:List Value, ∀ z:Int × Int,L[i]? = some z → (∃ b q n k b2 q2 n2 k2,cs = [.bool b,.slice q n k,.bool b2,.slice q2 n2 k2] ∧ Zr w b q n k z.1 K ∧ Zr w b2 q2 n2 k2 z.2 K) ∧ ∀ j v,cs[j]? = some v → w.cell? ⟨g,off + i * 4 + j,none⟩ = some v:=fun i => by
  cases hi:L[i]? with
  | none => exact ⟨[],fun z h => by cases h⟩
  | some z =>
   obtain ⟨g',off',b,q,n',k,b2,q2,n2,k2,hp,h1,h2,h3⟩:=h.2.2 i z hi
   simp only [Option.some.injEq,Addr.mk.injEq,and_true] at hp
   obtain ⟨rfl,rfl⟩:=hp
   refine ⟨[.bool b,.slice q n' k,.bool b2,.slice q2 n2 k2],fun z' hz => ?_⟩
   cases hz
   exact ⟨⟨b,q,n',k,b2,q2,n2,k2,rfl,h2,h3⟩,h1⟩
 obtain ⟨cs,hcs⟩:∃ cs:Nat → List Value, ∀ i (z:Int × Int),L[i]? = some z → (∃ b q n k b2 q2 n2 k2,cs i = [.bool b,.slice q n k,.bool b2,.slice q2 n2 k2] ∧ Zr w b q n k z.1 K ∧ Zr w b2 q2 n2 k2 z.2 K) ∧ ∀ j v,(cs i)[j]? = some v → w.cell? ⟨g,off + i * 4 + j,none⟩ = some v:=Classical.axiomOfChoice hc
 have hget:∀ (i:Nat) (z:Int × Int),L[i]? = some z → ((List.range L.length).map fun i => (El.mk (cs i) []))[i]? = some (El.mk (cs i) []):=fun i z hi => by
  have h9:=(List.getElem?_eq_some_iff.1 hi).1
  rw [List.getElem?_map,List.getElem?_range h9]; rfl
 have hE:Els 4 ((List.range L.length).map fun i => (El.mk (cs i) [])):=fun el hel => by
  obtain ⟨i,hi,rfl⟩:=List.mem_map.1 hel
  obtain ⟨⟨b,q,n',k,b2,q2,n2,k2,e,_⟩,_⟩:=hcs i _ (List.getElem?_eq_getElem (List.mem_range.1 hi))
  refine ⟨by show (cs i).length = 4; rw [e]; rfl,by show (cs i).all _ = true; rw [e]; rfl,fun r hr => by cases hr⟩
 refine ⟨(List.range L.length).map fun i => (El.mk (cs i) []),⟨by simp,hE,?_,fun i z hi => ?_⟩,fun j u hu => ?_⟩
 ·unfold flatR
  rw [List.flatMap_map]
  exact List.flatMap_eq_nil_iff.2 fun _ _ => rfl
 ·obtain ⟨⟨b,q,n',k,b2,q2,n2,k2,e,h1,h2⟩,_⟩:=hcs i z hi
  exact ⟨b,q,n',k,b2,q2,n2,k2,by rw [hget i z hi,e],h1,h2⟩
 have hj:j < L.length * 4:=by
  have:=(List.getElem?_eq_some_iff.1 hu).1
  rw [hE.len] at this; simpa using this
 have hi:j / 4 < L.length:=by omega
 have hz:=List.getElem?_eq_getElem hi
 have h1:=hE.cell (hget _ _ hz) (j % 4) (by omega)
 rw [show j / 4 * 4 + j % 4 = j by omega,hu] at h1
 have h2:=(hcs _ _ hz).2 (j % 4) u h1.symm
 rw [Addr.add_mid,show off + j = off + j / 4 * 4 + j % 4 by omega]
 exact h2
structure Zu where
  p:Option Addr
  c:Nat
  Q:List Zw
def zuE (r:Zu):El:=⟨[.slice r.p r.Q.length r.c],[.lst 28 2 r.p r.Q.length r.c (zzE r.Q)]⟩
def zuT (T:List Zu):List El:=T.map zuE
def zuv (T:List Zu):List (List Int):=T.map fun r => zsq r.Q
def nrm (T:List (List Int)):List (List (Bool × List Nat)):=T.map fun L => L.map fun z => (ng z,lim z.natAbs)
theorem nrm_tvr (T:List (List Int)):tvr (nrm T) = T:=by
  unfold tvr nrm
  rw [List.map_map]
  conv => rhs; rw [← List.map_id T]
  exact List.map_congr_left fun L _ => map_zvr L
theorem nrm_len (T:List (List Int)):(nrm T).length = T.length:=List.length_map _
theorem zuv_len (T:List Zu):(zuv T).length = T.length:=List.length_map _
theorem zuv_snoc (T:List Zu) (r:Zu):zuv (T ++ [r]) = zuv T ++ [zsq r.Q]:=by simp [zuv]
theorem zu_snoc {T:List Zu} {p:Option Addr} {n c:Nat} {Q:List Zw} (h:Q.length = n):zuT T ++ [⟨[.slice p n c],[.lst 28 2 p n c (zzE Q)]⟩] = zuT (T ++ [⟨p,c,Q⟩]):=by subst h; simp [zuT,zuE]
def TW' (T:List (List Int)) (K:Nat):Prop := ∀ L ∈ T, ∀ z ∈ L,Wd z K
theorem zl_of {w:World} {t:TypeId} {p:Option Addr} {n c K:Nat} {Q:List Zw} (h:(Res.lst t 2 p n c (zzE Q)).holds w) (hn:n ≤ 1048576) (hb:∀ z ∈ zsq Q,Wd z K):ZL w p n ((zsq Q).map fun z => (ng z,lim z.natAbs)) K:=by
 have hl:(zzE Q).length = n:=h.2.1
 rw [zzE_len] at hl
 refine ⟨by rw [List.length_map,zsq_len,hl],hn,fun i e he => ?_⟩
 rw [List.getElem?_map] at he
 obtain ⟨z,hz,rfl⟩:=Option.map_eq_some_iff.1 he
 have hm:=List.mem_of_getElem? hz
 unfold zsq at hz
 rw [List.getElem?_map] at hz
 obtain ⟨q,hq,rfl⟩:=Option.map_eq_some_iff.1 hz
 obtain ⟨g,h1,h2,h3⟩:=lst_cell h (zzE_get hq) (by decide)
 have hf:Fr 0 w q.p q.n q.c (lim q.z.natAbs):=h3 _ List.mem_cons_self
 refine ⟨g,0,q.p,q.n,q.c,h1,?_,?_,hf.sl,?_⟩
 ·have:=h2 0 _ rfl; simpa using this
 ·have:=h2 1 _ rfl; simpa using this
 have:=hb q.z hm
 rw [← hf.sl.len,length_lim]; exact this
theorem zu_trw {w:World} {t:TypeId} {p:Option Addr} {n c K:Nat} {T:List Zu} {TT:List (List Int)} (h:(Res.lst t 1 p n c (zuT T)).holds w) (hT:zuv T = TT) (hW:TW' TT K) (hn:n ≤ 1048576) (hb:∀ L ∈ TT,L.length ≤ 1048576):TRw w p n (nrm TT) K:=by
  subst hT
  have hl:(zuT T).length = n:=h.2.1
  refine ⟨by rw [nrm_len,zuv_len, ← hl]; exact (List.length_map _).symm,hn,fun i L hL => ?_⟩
  unfold nrm at hL
  rw [List.getElem?_map] at hL
  obtain ⟨L0,h0,rfl⟩:=Option.map_eq_some_iff.1 hL
  have hm:=List.mem_of_getElem? h0
  unfold zuv at h0
  rw [List.getElem?_map] at h0
  obtain ⟨r,hr,rfl⟩:=Option.map_eq_some_iff.1 h0
  obtain ⟨g,h1,h2,h3⟩:=lst_cell h (show (zuT T)[i]? = some (zuE r) by simp [zuT,hr]) (by decide)
  have h4:=zl_of (K:=K) (h3 _ List.mem_cons_self) (by have:=hb _ hm; rwa [zsq_len] at this) (hW _ hm)
  refine ⟨g,0,r.p,r.c,h1,fun j v hj => h2 j v (by rw [List.length_map,zsq_len] at hj; exact hj),?_⟩
  rw [List.length_map,zsq_len]; exact h4
theorem TRw.nb {w:World} {p:Option Addr} {n K:Nat} {T:List (List Int)} (h:TRw w p n (nrm T) K):TB w p n T K:=by
  have:=h.tb (Nat.le_refl K); rwa [nrm_tvr] at this
theorem Sep.zutb {w0 w:World} {R:List Res} (hS:Sep w0 R w) (k:Nat) {t:TypeId} {p:Option Addr} {n c K:Nat} {T:List Zu} {TT:List (List Int)} (hk:R[k]? = some (.lst t 1 p n c (zuT T))) (hT:zuv T = TT) (hW:TW' TT K) (hn:n ≤ 1048576) (hb:∀ L ∈ TT,L.length ≤ 1048576):TRw w p n (nrm TT) K :=
  zu_trw (show (Res.lst t 1 p n c (zuT T)).holds w from hS.get k hk) hT hW hn hb
def MAt (D:Int) (n:Nat) (TT:List (List Int)):Tell:=fun v r => ∃ (pd:Option Addr) (nd' cd:Nat) (pp:Option Addr) (c:Nat) (T:List Zu),zuv T = TT ∧ v = .agg #[.bool (ng D),.slice pd nd' cd,.slice pp n c] ∧ r = [.row pd nd' cd (lim D.natAbs),.lst 32 1 pp n c (zuT T)]
def MAe (D:Int) (n:Nat) (TT:List (List Int)) (e:Int):Tell:=fun v r => ∃ (pd:Option Addr) (nd' cd:Nat) (pp:Option Addr) (c:Nat) (T:List Zu),zuv T = TT ∧ v = .tuple #[.agg #[.bool (ng D),.slice pd nd' cd,.slice pp n c],.int .i64 e] ∧ r = [.row pd nd' cd (lim D.natAbs),.lst 32 1 pp n c (zuT T)]
def MRt (D:Int) (n:Nat) (T:List (List Int)) (K:Nat):Tell:=fun v r => ∃ (pd:Option Addr) (nd' cd:Nat) (ps:Option Addr) (cs:Nat) (rs:List Res),v = .agg #[.bool (ng D),.slice pd nd' cd,.slice ps n cs] ∧ r = [.row pd nd' cd (lim D.natAbs),.pack rs] ∧ ∀ w,(Res.pack rs).holds w → TRw w ps n (nrm T) K
def offI (T:List (List Int)) (i:Nat):Nat:=((T.take i).flatten).length
theorem offI_S {T:List (List Int)} {i:Nat} {L:List Int} (h:T[i]? = some L):offI T (i + 1) = offI T i + L.length:=by
  unfold offI; rw [List.take_add_one,h]; simp
theorem flI_S {α : Type} {T:List (List α)} {i:Nat} {L:List α} (h:T[i]? = some L):(T.take (i + 1)).flatten = (T.take i).flatten ++ L:=by
  rw [List.take_add_one,h]; simp
theorem offI_le {T:List (List Int)} {b:Nat} (h:∀ L ∈ T,L.length ≤ b):∀ i,offI T i ≤ i * b:=fun i => by
 induction i with
 | zero => simp [offI]
 | succ i ih =>
  cases hi:T[i]? with
  | none => unfold offI at ih ⊢; rw [List.take_add_one,hi]; simp only [Option.toList_none,List.append_nil]; rw [Nat.succ_mul]; omega
  | some L => rw [offI_S hi,Nat.succ_mul]; have:=h L (List.mem_of_getElem? hi); omega
theorem offI_mono {T:List (List Int)} {i j:Nat} (h:i ≤ j):offI T i ≤ offI T j:=by
 obtain ⟨k,rfl⟩:=Nat.exists_eq_add_of_le h
 clear h
 induction k with
 | zero => exact Nat.le_refl _
 | succ k ih =>
  refine Nat.le_trans ih ?_
  cases hi:T[i + k]? with
  | none => unfold offI; rw [show i + (k + 1) = i + k + 1 from rfl,List.take_add_one,hi]; simp
  | some L => rw [show i + (k + 1) = i + k + 1 from rfl,offI_S hi]; omega
theorem offI_all {T:List (List Int)} {n:Nat} (h:T.length = n):offI T n = T.flatten.length:=by unfold offI; rw [List.take_of_length_le (by omega)]
theorem flI_at {α : Type} {T:List (List α)} {i j:Nat} {L:List α} {z : α} (h:T[i]? = some L) (hj:L[j]? = some z):T.flatten[((T.take i).flatten).length + j]? = some z:=by
  have hi:=(List.getElem?_eq_some_iff.1 h).1
  have hjl:=(List.getElem?_eq_some_iff.1 hj).1
  have e:T.flatten = (T.take (i + 1)).flatten ++ (T.drop (i + 1)).flatten:=by rw [← List.flatten_append,List.take_append_drop]
  rw [e,List.getElem?_append_left (by rw [flI_S h,List.length_append]; omega),flI_S h,List.getElem?_append_right (by omega)]
  rw [show ((T.take i).flatten).length + j - ((T.take i).flatten).length = j from Nat.add_sub_cancel_left ..]
  exact hj
def slI (g:Nat) (T:List (List Int)) (i:Nat):El:=⟨[.slice (some ⟨g,0 + offI T i * 2,none⟩) (T.getD i []).length (T.getD i []).length],[]⟩
def slsI (g:Nat) (T:List (List Int)) (n:Nat):List El:=(List.range n).map (slI g T)
theorem slsI_S (g:Nat) (T:List (List Int)) (n:Nat):slsI g T (n + 1) = slsI g T n ++ [slI g T n]:=by simp [slsI,List.range_succ]
theorem trw_of {w:World} {g m d n cs K:Nat} {t t2:TypeId} {ps:Option Addr} {es:List El} {T:List (List Int)} (hf:(Res.lst t 2 (some ⟨g,0,none⟩) m d es).holds w) (hN:NEls (fun j => T.flatten.getD j 0) m es) (hm:m = T.flatten.length) (hs:(Res.lst t2 1 ps n cs (slsI g T n)).holds w) (hn:T.length = n) (hn2:n ≤ 1048576) (hW:TW' T K) (hb:∀ L ∈ T,L.length ≤ 1048576):TRw w ps n (nrm T) K:=by
 refine ⟨by rw [nrm_len,hn],hn2,fun i L0 hL => ?_⟩
 unfold nrm at hL
 rw [List.getElem?_map] at hL
 obtain ⟨L,hLi,rfl⟩:=Option.map_eq_some_iff.1 hL
 have hi:i < n:=by have:=(List.getElem?_eq_some_iff.1 hLi).1; omega
 obtain ⟨gs,h1,h2,_⟩:=lst_cell hs (show (slsI g T n)[i]? = some (slI g T i) by simp [slsI,hi]) (by decide)
 have hg:T.getD i [] = L:=by simp [List.getD,hLi]
 refine ⟨gs,0,some ⟨g,0 + offI T i * 2,none⟩,L.length,h1,fun j v hj => h2 j v (by unfold slI; rw [hg]; rw [List.length_map] at hj; exact hj),by rw [List.length_map],by rw [List.length_map]; exact hb L (List.mem_of_getElem? hLi),fun j e hz => ?_⟩
 rw [List.getElem?_map] at hz
 obtain ⟨z,hzj,rfl⟩:=Option.map_eq_some_iff.1 hz
 have hfl:T.flatten[offI T i + j]? = some z:=flI_at hLi hzj
 have hjm:offI T i + j < m:=by rw [hm]; exact (List.getElem?_eq_some_iff.1 hfl).1
 obtain ⟨p,n',c,he⟩:=hN.2 _ hjm
 obtain ⟨g',h3,h4,h5⟩:=lst_cell hf he (by decide)
 simp only [Option.some.injEq,Addr.mk.injEq,and_true] at h3
 subst h3
 have hzz:T.flatten.getD (offI T i + j) 0 = z:=by simp [List.getD,hfl]
 simp only [hzz] at h4 h5
 have hfr:Fr 0 w p n' c (lim z.natAbs):=h5 _ List.mem_cons_self
 refine ⟨g,0 + offI T i * 2,p,n',c,rfl,?_,?_,hfr.sl,?_⟩
 ·have:=h4 0 _ rfl
  rw [show 0 + offI T i * 2 + j * 2 = 0 + (offI T i + j) * 2 + 0 by omega]
  exact this
 ·have:=h4 1 _ rfl
  rw [show 0 + offI T i * 2 + j * 2 + 1 = 0 + (offI T i + j) * 2 + 1 by omega]
  exact this
 have:=hW L (List.mem_of_getElem? hLi) z (List.mem_of_getElem? hzj)
 rw [← hfr.sl.len,length_lim]; exact this
end Go.Proofs.YtnlnibngpeempaaGreatDoor
