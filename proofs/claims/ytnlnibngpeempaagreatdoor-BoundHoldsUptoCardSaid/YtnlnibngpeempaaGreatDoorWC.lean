/-
  Contracts and lemmas, joined in one text.
-/
import Derived.Test.YtnlnibngpeempaaGreatDoorBC
import Derived.Test.YtnlnibngpeempaaGreatDoorWA
set_option linter.unusedVariables false
set_option linter.unusedSimpArgs false
/-
  Fractions in lowest terms,plainly.
-/
set_option maxRecDepth 100000
set_option maxHeartbeats 16000000
namespace Go.Proofs.YtnlnibngpeempaaGreatDoor
def sgd (x y:Int):Int:=if y < 0 then -(Int.gcd x y:Int) else (Int.gcd x y:Int)
def RN (x y:Int):Int:=x.tdiv (sgd x y)
def RD (x y:Int):Int:=y.tdiv (sgd x y)
theorem sgd_ne {x y:Int} (hy:y ≠ 0):sgd x y ≠ 0:=by
  have:0 < Int.gcd x y:=Nat.gcd_pos_of_pos_right _ (by omega)
  unfold sgd; split <;> omega
theorem sgd_dvd1 (x y:Int):sgd x y ∣ x:=by
  unfold sgd; split
  · exact Int.neg_dvd.2 (Int.gcd_dvd_left x y)
  exact Int.gcd_dvd_left x y
theorem sgd_dvd2 (x y:Int):sgd x y ∣ y:=by
  unfold sgd; split
  · exact Int.neg_dvd.2 (Int.gcd_dvd_right x y)
  exact Int.gcd_dvd_right x y
theorem RN_mul (x y:Int):sgd x y * RN x y = x:=Int.mul_tdiv_cancel' (sgd_dvd1 x y)
theorem RD_mul (x y:Int):sgd x y * RD x y = y:=Int.mul_tdiv_cancel' (sgd_dvd2 x y)
theorem RD_pos {x y:Int} (hy:y ≠ 0):0 < RD x y:=by
 have h:=RD_mul x y
 have hg:(0:Int) < Int.gcd x y:=by have:0 < Int.gcd x y:=Nat.gcd_pos_of_pos_right _ (by omega); omega
 unfold sgd at h
 split at h
 ·rename_i hlt
  by_cases h0:0 < RD x y
  ·exact h0
  exfalso
  have:0 ≤ (-(Int.gcd x y:Int)) * RD x y:=Int.mul_nonneg_of_nonpos_of_nonpos (by omega) (by omega)
  omega
 by_cases h0:0 < RD x y
 ·exact h0
 exfalso
 have:(Int.gcd x y:Int) * RD x y ≤ 0:=Int.mul_nonpos_of_nonneg_of_nonpos (by omega) (by omega)
 omega
theorem sgd_natAbs (x y:Int):(sgd x y).natAbs = Int.gcd x y:=by unfold sgd; split <;> omega
theorem R_gcd {x y:Int} (hy:y ≠ 0):Int.gcd (RN x y) (RD x y) = 1:=by
  have h1:=RN_mul x y
  have h2:=RD_mul x y
  have h3:Int.gcd (sgd x y * RN x y) (sgd x y * RD x y) = (sgd x y).natAbs * Int.gcd (RN x y) (RD x y):=Int.gcd_mul_left _ _ _
  rw [h1,h2,sgd_natAbs] at h3
  have:0 < Int.gcd x y:=Nat.gcd_pos_of_pos_right _ (by omega)
  exact Nat.eq_of_mul_eq_mul_left this (by rw [← h3,Nat.mul_one])
theorem int_cop {a b c:Int} (h:a ∣ b * c) (hg:Int.gcd a b = 1):a ∣ c:=by
  have:a.natAbs ∣ b.natAbs * c.natAbs:=by rw [← Int.natAbs_mul]; exact Int.natAbs_dvd_natAbs.2 h
  exact Int.natAbs_dvd_natAbs.1 ((show Nat.Coprime a.natAbs b.natAbs from hg).dvd_of_dvd_mul_left this)
theorem R_uniq {x y n d:Int} (hy:y ≠ 0) (hd:0 < d) (hg:Int.gcd n d = 1) (h:n * y = x * d):RN x y = n ∧ RD x y = d:=by
 have hk:=sgd_ne (x:=x) hy
 have h1:=RN_mul x y
 have h2:=RD_mul x y
 have hD:=RD_pos (x:=x) hy
 have e:n * RD x y = RN x y * d:=by
  apply Int.eq_of_mul_eq_mul_left hk
  have e1:sgd x y * (n * RD x y) = n * (sgd x y * RD x y):=by rw [← Int.mul_assoc,Int.mul_comm (sgd x y) n,Int.mul_assoc]
  have e2:sgd x y * (RN x y * d) = (sgd x y * RN x y) * d:=by rw [Int.mul_assoc]
  rw [e1,e2,h1,h2,h]
 have d1:RD x y ∣ d:=int_cop (b:=RN x y) ⟨n,by rw [← e,Int.mul_comm]⟩ (by rw [Int.gcd_comm]; exact R_gcd hy)
 have d2:d ∣ RD x y:=int_cop (b:=n) ⟨RN x y,by rw [e,Int.mul_comm]⟩ (by rw [Int.gcd_comm]; exact hg)
 have hdd:RD x y = d:=Int.dvd_antisymm (by omega) (by omega) d1 d2
 rw [hdd] at e
 exact ⟨(Int.eq_of_mul_eq_mul_right (by omega) e).symm,hdd⟩
theorem R_cross (x y:Int):RN x y * y = x * RD x y:=by
  have h1:=RN_mul x y
  have h2:=RD_mul x y
  generalize RN x y = a at *
  generalize RD x y = b at *
  generalize sgd x y = k at *
  rw [← h1, ← h2]; grind
theorem R_same {x y x' y':Int} (hy:y ≠ 0) (hy':y' ≠ 0) (h:x * y' = x' * y):RN x y = RN x' y' ∧ RD x y = RD x' y':=by
  refine R_uniq hy (RD_pos hy') (R_gcd hy') ?_
  have h1:=R_cross x' y'
  apply Int.eq_of_mul_eq_mul_left hy'
  generalize RN x' y' = a at *
  generalize RD x' y' = b at *
  grind
theorem RN_same {x y x' y':Int} (hy:y ≠ 0) (hy':y' ≠ 0) (h:x * y' = x' * y):RN x y = RN x' y':=(R_same hy hy' h).1
theorem RD_same {x y x' y':Int} (hy:y ≠ 0) (hy':y' ≠ 0) (h:x * y' = x' * y):RD x y = RD x' y':=(R_same hy hy' h).2
theorem R_low {x y:Int} (hd:0 < y) (hg:Int.gcd x y = 1):RN x y = x ∧ RD x y = y:=R_uniq (by omega) hd hg rfl
theorem RN_zero {x y:Int} (hy:y ≠ 0):RN x y = 0 ↔ x = 0:=by
 have h1:=RN_mul x y
 constructor
 ·intro h; rw [h,Int.mul_zero] at h1; exact h1.symm
 intro h
 rw [h] at h1 ⊢
 rcases Int.mul_eq_zero.1 h1 with h2 | h2
 ·exact absurd h2 (sgd_ne hy)
 exact h2
theorem RN_neg {x y:Int} (hy:y ≠ 0):RN (-x) (-y) = RN x y:=RN_same (by omega) hy (by grind)
theorem RD_neg {x y:Int} (hy:y ≠ 0):RD (-x) (-y) = RD x y:=RD_same (by omega) hy (by grind)
theorem sgd_pos {x y:Int} (h:0 ≤ y):sgd x y = (Int.gcd x y:Int):=by unfold sgd; rw [if_neg (by omega)]
theorem RN_of {x y g z:Int} (h0:0 ≤ y) (hg:(Int.gcd x y:Int) = g) (hz:x.tdiv g = z):RN x y = z:=by unfold RN; rw [sgd_pos h0,hg,hz]
theorem RD_of {x y g z:Int} (h0:0 ≤ y) (hg:(Int.gcd x y:Int) = g) (hz:y.tdiv g = z):RD x y = z:=by unfold RD; rw [sgd_pos h0,hg,hz]
theorem gcd_mod1 {x y g:Int} (hg:(Int.gcd x y:Int) = g):x.tmod g = 0:=by rw [← hg]; exact Int.tmod_eq_zero_of_dvd (Int.gcd_dvd_left x y)
theorem gcd_mod2 {x y g:Int} (hg:(Int.gcd x y:Int) = g):y.tmod g = 0:=by rw [← hg]; exact Int.tmod_eq_zero_of_dvd (Int.gcd_dvd_right x y)
theorem gcd_ne {x y g:Int} (hy:y ≠ 0) (hg:(Int.gcd x y:Int) = g):g ≠ 0:=by
  have:0 < Int.gcd x y:=Nat.gcd_pos_of_pos_right _ (by omega)
  omega
theorem RN_one (x:Int):RN x 1 = x:=(R_low (by omega) (by simp)).1
theorem RD_one (x:Int):RD x 1 = 1:=(R_low (by omega) (by simp)).2
theorem RN_abs (x y:Int):(RN x y).natAbs ≤ x.natAbs:=by
  unfold RN; rw [Int.natAbs_tdiv]; exact Nat.div_le_self _ _
theorem RD_abs (x y:Int):(RD x y).natAbs ≤ y.natAbs:=by
  unfold RD; rw [Int.natAbs_tdiv]; exact Nat.div_le_self _ _
open Go.RowKit
section
variable {P:Program} {o:Oper} {n:Nat} {f:Nat → Value} {w w0:World} {R:List Res} {K:Act → World → Prop} {Q:Exit → Act → World → Prop} {d:Nat}
theorem oloadA {ty:TypeId} {x:Operand} {sz off g:Nat} {vs:List Value} (hA:Agg P ty sz) (hop:o.op = .load ty x) (ho:o.dst = some d)
  (hx:(act n f).eval x = .pointer (some ⟨g,off,none⟩)) (hc:∀ j v,vs[j]? = some v → w.cell? ⟨g,off + j,none⟩ = some v) (hl:vs.length = sz) (hK:K (act n (upd f d (.agg vs.toArray))) w):OW P o (act n f) w K Q :=
 oval ho (by
  have hl':=run_loadCells_list (P:=P) w ⟨g,off,none⟩ vs (fun j v hv => by rw [Addr.add_mid]; exact hc j v hv)
  rw [hl] at hl'
  simp only [execOp,hop,hx]; rw [Sem.run_bind]; simp [Instr.loadAt,Instr.sureAddr,loadVar,hA.isAgg,hA.size,hl']) rfl hK
theorem CW.mono {c:Code} {Q Q':Exit → Act → World → Prop} {a:Act} {w:World} (hq:∀ e a w,Q e a w → Q' e a w) (h:CW P c Q a w):CW P c Q' a w:=⟨Code.wp_mono hq h.out⟩
end
def Zs (w:World) (p:Option Addr) (m:Nat) (l:List Int) (K:Nat):Prop :=
  m = l.length ∧ m ≤ 1048576 ∧ ∀ i z,l[i]? = some z → ∃ g off b q n k,p = some ⟨g,off,none⟩ ∧ w.cell? ⟨g,off + i * 2,none⟩ = some (.bool b) ∧ w.cell? ⟨g,off + i * 2 + 1,none⟩ = some (.slice q n k) ∧ Zr w b q n k z K
theorem Zs.on {w w':World} {p:Option Addr} {m K B:Nat} {l:List Int} (h:Zs w p m l K) (hb:Below B w w') (hB:w.heap.size ≤ B):Zs w' p m l K:=by
  refine ⟨h.1,h.2.1,fun i z hi => ?_⟩
  obtain ⟨g,off,b,q,n,k,hp,h1,h2,h3⟩:=h.2.2 i z hi
  have hg:g < w.heap.size:=World.block_lt_of_cell? w _ h1
  have he:=hb.block g (by omega)
  exact ⟨g,off,b,q,n,k,hp,(World.cell?_of_block (w:=w) he).trans h1,(World.cell?_of_block (w:=w) he).trans h2,h3.on hb hB⟩
theorem Zs.at {w w':World} {R:List Res} {p:Option Addr} {m K:Nat} {l:List Int} (h:Zs w p m l K) (hS:Sep w R w'):Zs w' p m l K:=h.on hS.below (Nat.le_refl _)
theorem Zs.el {w:World} {p:Option Addr} {m K:Nat} {l:List Int} (h:Zs w p m l K) {i:Nat} (hi:i < m):∃ z g off b q n k,l[i]? = some z ∧ p = some ⟨g,off,none⟩ ∧ (∀ j v,[Value.bool b,.slice q n k][j]? = some v → w.cell? ⟨g,off + i * 2 + j,none⟩ = some v) ∧ Zr w b q n k z K:=by
  have hi':i < l.length:=by rw [← h.1]; exact hi
  obtain ⟨g,off,b,q,n,k,hp,h1,h2,h3⟩:=h.2.2 i l[i] (List.getElem?_eq_getElem hi')
  refine ⟨_,g,off,b,q,n,k,List.getElem?_eq_getElem hi',hp,fun j v hj => ?_,h3⟩
  match j,hj with
  | 0,hj => simp at hj; subst hj; exact h1
  | 1,hj => simp at hj; subst hj; exact h2
theorem Zs.two {w:World} {g K:Nat} {t:TypeId} {b b2:Bool} {p q:Option Addr} {n m c d:Nat} {x y:Int} (hg:w.heap[g]? = some (.cells [.bool b,.slice p n c,.bool b2,.slice q m d].toArray t)) (hx:Zr w b p n c x K) (hy:Zr w b2 q m d y K):Zs w (some ⟨g,0,none⟩) 2 [x,y] K:=by
  refine ⟨rfl,by omega,fun i z hi => ?_⟩
  match i,hi with
  | 0,hi => simp at hi; subst hi; exact ⟨g,0,b,p,n,c,rfl,blk_cell hg 0,blk_cell hg 1,hx⟩
  | 1,hi => simp at hi; subst hi; exact ⟨g,0,b2,q,m,d,rfl,blk_cell hg 2,blk_cell hg 3,hy⟩
open Go.RowKit
theorem Sep.cellAt {w w':World} {R:List Res} (hS:Sep w R w') {g j:Nat} {v:Value} (h:w.cell? ⟨g,j,none⟩ = some v):w'.cell? ⟨g,j,none⟩ = some v :=
  (World.cell?_of_block (w:=w) (hS.below.block g (World.block_lt_of_cell? w _ h))).trans h
open Go.RowKit
def facc (g:Int → Int → Int) (s:Int) (l:List Int) (i:Nat):Int:=(l.take i).foldl g s
theorem facc_succ {g:Int → Int → Int} {s z:Int} {l:List Int} {i:Nat} (h:l[i]? = some z):facc g s l (i + 1) = g (facc g s l i) z:=by
  unfold facc
  rw [List.take_add_one,h,List.foldl_append]; rfl
def lcmZ (x y:Int):Int:=(Int.lcm x y:Int)
theorem Zs.elWd {w:World} {p:Option Addr} {m K:Nat} {l:List Int} (h:Zs w p m l K) {i:Nat} {z:Int} (hi:l[i]? = some z):Wd z K:=by
  obtain ⟨g,off,b,q,n,k,_,_,_,h3⟩:=h.2.2 i z hi
  exact h3.wd
theorem Zs.some {w:World} {p:Option Addr} {m K:Nat} {l:List Int} (h:Zs w p m l K) {i:Nat} (hi:i < m):∃ z,l[i]? = some z:=by
  have hi':i < l.length:=by rw [← h.1]; exact hi
  exact ⟨_,List.getElem?_eq_getElem hi'⟩
theorem Wd.zero (k:Nat):Wd 0 k:=by
  have:ll (0:Int).natAbs = 0:=Nat.le_zero.1 (ll_le (k:=0) (by decide))
  unfold Wd; omega
open Go.RowKit
theorem ownsRow_same {w w':World} {e:TypeId} {sz n n' c:Nat} {p:Option Addr} {cs:List Value} (he:∀ k,p = some ⟨k,0,none⟩ → w'.heap[k]? = w.heap[k]?) (h:w.ownsRow 0 e sz (.slice p n c) n' cs):w'.ownsRow 0 e sz (.slice p n c) n' cs:=by
 refine ⟨h.1,?_⟩
 rcases h.2 with h1 | ⟨g,cap,cur,h1,hb,hg,r⟩
 ·exact .inl h1
 refine .inr ⟨g,cap,cur,h1,hb,?_,r⟩
 simp only [Value.slice.injEq] at h1
 rw [he g h1.1]; exact hg
def Res.own' (e:TypeId) (sz:Nat) (p:Option Addr) (n c:Nat) (cs:List Value):Res where
  own:=true
  arg:=false
  foot k:=p = some ⟨k,0,none⟩
  holds w:=w.ownsRow 0 e sz (.slice p n c) n cs
  lt w h k hk:=by subst hk; exact (h.lt k rfl).2
  stays w w' he h:=ownsRow_same he h
structure El where
  cs:List Value
  rs:List Res
def flatC (es:List El):List Value:=es.flatMap El.cs
def flatR (es:List El):List Res:=es.flatMap El.rs
def Els (sz:Nat) (es:List El):Prop := ∀ el ∈ es,el.cs.length = sz ∧ el.cs.all (·.oneCell') = true ∧ ∀ r ∈ el.rs,r.own = true ∧ r.arg = false
def Res.lst (e:TypeId) (sz:Nat) (p:Option Addr) (n c:Nat) (es:List El):Res where
 own:=true
 arg:=false
 foot k:=p = some ⟨k,0,none⟩ ∨ ∃ r ∈ flatR es,r.foot k
 holds w:=Els sz es ∧ es.length = n ∧ (∀ r ∈ Res.own' e sz p n c (flatC es) :: flatR es,r.holds w) ∧ (Res.own' e sz p n c (flatC es) :: flatR es).Pairwise Apart
 lt w h k hk:=by
  rcases hk with hk | ⟨r,hr,hk⟩
  ·exact (Res.own' e sz p n c (flatC es)).lt w (h.2.2.1 _ List.mem_cons_self) k hk
  exact r.lt w (h.2.2.1 r (List.mem_cons_of_mem _ hr)) k hk
 stays w w' he h:=by
  refine ⟨h.1,h.2.1,fun r hr => ?_,h.2.2.2⟩
  refine r.stays w w' (fun g hg => he g ?_) (h.2.2.1 r hr)
  rcases List.mem_cons.1 hr with rfl | hr
  ·exact .inl hg
  exact .inr ⟨r,hr,hg⟩
theorem Els.nil {sz:Nat}:Els sz []:=fun _ h => by cases h
theorem Els.own {sz:Nat} {es:List El} (h:Els sz es):∀ r ∈ flatR es,r.own = true ∧ r.arg = false:=by
  intro r hr
  obtain ⟨el,h1,h2⟩:=List.mem_flatMap.1 hr
  exact (h el h1).2.2 r h2
theorem Els.len {sz:Nat}:∀ {es:List El},Els sz es → (flatC es).length = es.length * sz
 | [],_ => by simp [flatC]
 | el :: es,h => by
  have ih:=Els.len (es:=es) (fun x hx => h x (List.mem_cons_of_mem _ hx))
  have h1:=(h el List.mem_cons_self).1
  simp only [flatC,List.flatMap_cons,List.length_append,List.length_cons] at ih ⊢
  rw [ih,h1,Nat.add_mul,Nat.one_mul,Nat.add_comm]
theorem Els.set {sz:Nat} {es:List El} (h:Els sz es) (i:Nat) {el:El} (he:el.cs.length = sz ∧ el.cs.all (·.oneCell') = true ∧ ∀ r ∈ el.rs,r.own = true ∧ r.arg = false):Els sz (es.set i el):=by
  intro x hx
  rcases List.mem_or_eq_of_mem_set hx with hx | rfl
  · exact h x hx
  exact he
theorem Els.app {sz:Nat} {es:List El} (h:Els sz es) {el:El} (he:el.cs.length = sz ∧ el.cs.all (·.oneCell') = true ∧ ∀ r ∈ el.rs,r.own = true ∧ r.arg = false):Els sz (es ++ [el]):=by
  intro x hx
  rcases List.mem_append.1 hx with hx | hx
  · exact h x hx
  rw [List.mem_singleton.1 hx]; exact he
theorem Els.cell {sz:Nat}:∀ {es:List El} {i:Nat} {el:El},Els sz es → es[i]? = some el → ∀ j,j < sz → (flatC es)[i * sz + j]? = el.cs[j]?
 | x :: es,0,el,h,hi,j,hj => by
  simp at hi; subst hi
  have h1:=(h x List.mem_cons_self).1
  simp only [flatC,List.flatMap_cons,Nat.zero_mul,Nat.zero_add]
  rw [List.getElem?_append_left (by omega)]
 | x :: es,i + 1,el,h,hi,j,hj => by
  have h1:=(h x List.mem_cons_self).1
  have hi':es[i]? = some el:=by simpa using hi
  have ih:=Els.cell (es:=es) (fun y hy => h y (List.mem_cons_of_mem _ hy)) hi' j hj
  simp only [flatC,List.flatMap_cons] at ih ⊢
  rw [List.getElem?_append_right (by rw [h1,Nat.add_mul]; omega),h1,show (i + 1) * sz + j - sz = i * sz + j by rw [Nat.add_mul]; omega]
  exact ih
theorem wr_length:∀ (vs:List Value) (cs:List Value) (o:Nat),(wr cs o vs).length = cs.length
  | [],_,_ => rfl
  | v :: vs,cs,o => by rw [wr,wr_length vs]; simp
theorem wr_app_left:∀ (vs:List Value) (cs ds:List Value) (o:Nat),o + vs.length ≤ cs.length → wr (cs ++ ds) o vs = wr cs o vs ++ ds
 | [],_,_,_,_ => rfl
 | v :: vs,cs,ds,o,h => by
  simp only [List.length_cons] at h
  rw [wr,wr,List.set_append_left _ _ (by omega)]
  exact wr_app_left vs _ _ _ (by rw [List.length_set]; omega)
theorem wr_app_right:∀ (vs:List Value) (cs ds:List Value) (o:Nat),wr (cs ++ ds) (cs.length + o) vs = cs ++ wr ds o vs
 | [],_,_,_ => rfl
 | v :: vs,cs,ds,o => by
  rw [wr,wr,List.set_append_right _ _ (by omega),show cs.length + o - cs.length = o by omega,Nat.add_assoc]
  exact wr_app_right vs _ _ _
theorem wr_all:∀ (vs:List Value) (cs:List Value),vs.length = cs.length → wr cs 0 vs = vs
 | [],[],_ => rfl
 | v :: vs,c :: cs,h => by
  have h':vs.length = cs.length:=by simpa using h
  have:=wr_app_right vs [v] cs 0
  simp only [List.length_cons,List.length_nil,List.cons_append,List.nil_append] at this
  rw [wr]
  show wr (v :: cs) (0 + 1) vs = _
  rw [this,wr_all vs cs h']
theorem Els.wr {sz:Nat} {vs:List Value} {rs:List Res} (hv:vs.length = sz):∀ {es:List El} {i:Nat},Els sz es → i < es.length → wr (flatC es) (i * sz) vs = flatC (es.set i ⟨vs,rs⟩)
 | x :: es,0,h,_ => by
  have h1:=(h x List.mem_cons_self).1
  simp only [flatC,List.flatMap_cons,Nat.zero_mul,List.set_cons_zero]
  rw [wr_app_left _ _ _ _ (by omega),wr_all _ _ (by omega)]
 | x :: es,i + 1,h,hi => by
  have h1:=(h x List.mem_cons_self).1
  have ih:=Els.wr (rs:=rs) hv (es:=es) (i:=i) (fun y hy => h y (List.mem_cons_of_mem _ hy)) (by simpa using hi)
  simp only [flatC,List.flatMap_cons,List.set_cons_succ] at ih ⊢
  rw [show (i + 1) * sz = x.cs.length + i * sz by rw [h1,Nat.add_mul]; omega,wr_app_right,ih]
theorem wr_take:∀ (vs:List Value) (cs:List Value) (o k:Nat),o + vs.length ≤ k → (wr cs o vs).take k = wr (cs.take k) o vs
 | [],_,_,_,_ => rfl
 | v :: vs,cs,o,k,h => by
  simp only [List.length_cons] at h
  rw [wr,wr,wr_take vs _ _ k (by omega),List.take_set]
theorem Sep.openL {w0 w:World} {R:List Res} {e:TypeId} {sz n c:Nat} {p:Option Addr} {es:List El} (h:Sep w0 (.lst e sz p n c es :: R) w):Els sz es ∧ es.length = n ∧ Sep w0 (.own' e sz p n c (flatC es) :: (flatR es ++ R)) w:=by
 have hh:=h.holds _ List.mem_cons_self
 obtain ⟨h1,h2,h3,h4⟩:=hh
 have hap:=List.pairwise_cons.1 h.apart
 have hfoot:∀ r ∈ Res.own' e sz p n c (flatC es) :: flatR es, ∀ g,r.foot g → (Res.lst e sz p n c es).foot g:=fun r hr g hg => by
  rcases List.mem_cons.1 hr with rfl | hr
  ·exact .inl hg
  exact .inr ⟨r,hr,hg⟩
 refine ⟨h1,h2,h.below,fun r hr => ?_,fun r hr ha g hg => ?_,?_⟩
 ·rw [← List.cons_append] at hr
  rcases List.mem_append.1 hr with hr | hr
  ·exact h3 r hr
  exact h.holds r (List.mem_cons_of_mem _ hr)
 ·rw [← List.cons_append] at hr
  rcases List.mem_append.1 hr with hr | hr
  ·exact h.low _ List.mem_cons_self rfl g (hfoot r hr g hg)
  exact h.low r (List.mem_cons_of_mem _ hr) ha g hg
 rw [← List.cons_append]
 refine List.pairwise_append.2 ⟨h4,hap.2,fun r hr s hs _ g hg hs' => ?_⟩
 exact hap.1 s hs rfl g (hfoot r hr g hg) hs'
theorem Sep.closeL {w0 w:World} {R:List Res} {e:TypeId} {sz n c:Nat} {p:Option Addr} {es:List El} (h1:Els sz es) (h2:es.length = n) (h:Sep w0 (.own' e sz p n c (flatC es) :: (flatR es ++ R)) w):Sep w0 (.lst e sz p n c es :: R) w:=by
 rw [← List.cons_append] at h
 have hap:=List.pairwise_append.1 h.apart
 have hown:∀ r ∈ Res.own' e sz p n c (flatC es) :: flatR es,r.own = true ∧ r.arg = false:=fun r hr => by
  rcases List.mem_cons.1 hr with rfl | hr
  ·exact ⟨rfl,rfl⟩
  exact h1.own r hr
 have hfoot:∀ g,(Res.lst e sz p n c es).foot g → ∃ r ∈ Res.own' e sz p n c (flatC es) :: flatR es,r.foot g:=fun g hg => by
  rcases hg with hg | ⟨r,hr,hg⟩
  ·exact ⟨_,List.mem_cons_self,hg⟩
  exact ⟨r,List.mem_cons_of_mem _ hr,hg⟩
 refine ⟨h.below,fun r hr => ?_,fun r hr ha g hg => ?_,List.pairwise_cons.2 ⟨fun s hs _ g hg hs' => ?_,hap.2.1⟩⟩
 ·rcases List.mem_cons.1 hr with rfl | hr
  ·exact ⟨h1,h2,fun r hr => h.holds r (List.mem_append_left _ hr),hap.1⟩
  exact h.holds r (List.mem_append_right _ hr)
 ·rcases List.mem_cons.1 hr with rfl | hr
  ·obtain ⟨s,hs,hsg⟩:=hfoot g hg
   exact h.low s (List.mem_append_left _ hs) (hown s hs).2 g hsg
  exact h.low r (List.mem_append_right _ hr) ha g hg
 obtain ⟨r,hr,hrg⟩:=hfoot g hg
 exact hap.2.2 r hr s hs (by rw [(hown r hr).1,Bool.true_or]) g hrg hs'
theorem Sep.lstCell {w0 w:World} {R:List Res} (h:Sep w0 R w) (k:Nat) {e:TypeId} {sz n c:Nat} {p:Option Addr} {es:List El} (hk:R[k]? = some (.lst e sz p n c es)) {i:Nat} {el:El} (hi:es[i]? = some el) (hs:0 < sz) :
  ∃ g,p = some ⟨g,0,none⟩ ∧ (∀ j v,el.cs[j]? = some v → w.cell? ⟨g,0 + i * sz + j,none⟩ = some v) ∧ ∀ r ∈ el.rs,r.holds w:=by
 obtain ⟨h1,h2,h3,h4⟩:=(show (Res.lst e sz p n c es).holds w from h.get k hk)
 have hin:i < es.length:=(List.getElem?_eq_some_iff.1 hi).1
 have ho:=h3 _ List.mem_cons_self
 have hp:∃ g,p = some ⟨g,0,none⟩:=by
  rcases ho.2 with ⟨_,h0⟩ | ⟨g,_,_,hg,_⟩
  ·omega
  simp only [Value.slice.injEq] at hg; exact ⟨g,hg.1⟩
 obtain ⟨g,rfl⟩:=hp
 refine ⟨g,rfl,fun j v hj => ?_,fun r hr => h3 r (List.mem_cons_of_mem _ (List.mem_flatMap.2 ⟨el,List.mem_of_getElem? hi,hr⟩))⟩
 have hjs:j < sz:=by
  have:=(h1 el (List.mem_of_getElem? hi)).1
  have:=(List.getElem?_eq_some_iff.1 hj).1
  omega
 have hc:=h1.cell hi j hjs
 rw [hj] at hc
 have:=ho.cells (g:=g) rfl (i * sz + j) v hc
 rw [Addr.add_mid] at this
 rw [← this,Nat.zero_add]
 simp
section
variable {P:Program} {o:Oper} {n:Nat} {f:Nat → Value} {w w0:World} {R:List Res} {K:Act → World → Prop} {Q:Exit → Act → World → Prop} {d:Nat}
theorem Sep.asBlk {e:TypeId} {sz m c:Nat} {p:Option Addr} {cs:List Value} (h:Sep w0 (.own' e sz p m c cs :: R) w) (h0:0 < m):∃ g cap cur,p = some ⟨g,0,none⟩ ∧ c = cap ∧ m ≤ cap ∧ cap ≤ maxLen ∧ cur.length = cap * sz ∧ cur.take (m * sz) = cs ∧ Sep w0 (.blk g cur e :: R) w:=by
 have hh:=(show (Res.own' e sz p m c cs).holds w from h.holds _ List.mem_cons_self)
 obtain ⟨hl,⟨_,h1⟩ | ⟨g,cap,cur,hv,hb,hg,h1,h2,h3,h4⟩⟩:=hh
 ·omega
 simp only [Value.slice.injEq,true_and] at hv
 obtain ⟨rfl,rfl⟩:=hv
 refine ⟨g,c,cur.toList,rfl,rfl,h1,h2,by simpa using h3,h4,h.below,fun r hr => ?_,fun r hr ha k hk => ?_,?_⟩
 ·rcases List.mem_cons.1 hr with rfl | hr
  ·show w.heap[g]? = some (.cells cur.toList.toArray e)
   simpa using hg
  exact h.holds r (List.mem_cons_of_mem _ hr)
 ·rcases List.mem_cons.1 hr with rfl | hr
  ·have hk':k = g:=hk
   subst hk'
   exact h.low _ List.mem_cons_self rfl k rfl
  exact h.low r (List.mem_cons_of_mem _ hr) ha k hk
 have hap:=List.pairwise_cons.1 h.apart
 refine List.pairwise_cons.2 ⟨fun s hs he k hk hs' => ?_,hap.2⟩
 have hk':k = g:=hk
 subst hk'
 exact hap.1 s hs rfl k rfl hs'
theorem Sep.ofBlk {e:TypeId} {sz m g cap:Nat} {cur:List Value} (h:Sep w0 (.blk g cur e :: R) w) (h1:m ≤ cap) (h2:cap ≤ maxLen) (h3:cur.length = cap * sz):Sep w0 (.own' e sz (some ⟨g,0,none⟩) m cap (cur.take (m * sz)) :: R) w:=by
 refine ⟨h.below,fun r hr => ?_,fun r hr ha k hk => ?_,?_⟩
 ·rcases List.mem_cons.1 hr with rfl | hr
  ·have hb:=(show w.heap[g]? = some (.cells cur.toArray e) from h.holds _ List.mem_cons_self)
   refine ⟨?_,.inr ⟨g,cap,cur.toArray,rfl,Nat.zero_le _,hb,h1,h2,by simpa using h3,rfl⟩⟩
   rw [List.length_take,h3]
   exact Nat.min_eq_left (Nat.mul_le_mul_right _ h1)
  exact h.holds r (List.mem_cons_of_mem _ hr)
 ·rcases List.mem_cons.1 hr with rfl | hr
  ·have hk':some (⟨g,0,none⟩:Addr) = some ⟨k,0,none⟩:=hk
   simp at hk'; subst hk'
   exact h.low _ List.mem_cons_self rfl g rfl
  exact h.low r (List.mem_cons_of_mem _ hr) ha k hk
 have hap:=List.pairwise_cons.1 h.apart
 refine List.pairwise_cons.2 ⟨fun s hs he k hk hs' => ?_,hap.2⟩
 have hk':some (⟨g,0,none⟩:Addr) = some ⟨k,0,none⟩:=hk
 simp at hk'; subst hk'
 exact hap.1 s hs rfl g rfl hs'
theorem flatR_set_perm {el:El} {rs:List Res}:∀ {es:List El} {i:Nat},i < es.length → ∃ S,(flatR es).Perm (S ++ (es[i]?.map El.rs).getD []) ∧ (flatR (es.set i el)).Perm (S ++ el.rs)
 | x :: es,0,_ => ⟨flatR es,by simp only [flatR,List.flatMap_cons,List.getElem?_cons_zero,Option.map_some,Option.getD_some]; exact List.perm_append_comm,by simp only [flatR,List.flatMap_cons,List.set_cons_zero]; exact List.perm_append_comm⟩
 | x :: es,i + 1,h => by
  obtain ⟨S,h1,h2⟩:=flatR_set_perm (el:=el) (rs:=rs) (es:=es) (i:=i) (by simpa using h)
  refine ⟨x.rs ++ S,?_,?_⟩
  ·simp only [flatR,List.flatMap_cons,List.getElem?_cons_succ,List.append_assoc] at h1 ⊢
   exact h1.append_left _
  simp only [flatR,List.flatMap_cons,List.set_cons_succ,List.append_assoc] at h2 ⊢
  exact h2.append_left _
theorem Sep.lstSet {e:TypeId} {sz m c:Nat} {p:Option Addr} {es:List El} {rs:List Res} {vs:List Value} {g i:Nat} (h:Sep w0 (rs ++ (.lst e sz p m c es :: R)) w) (hp:p = some ⟨g,0,none⟩) (hi:i < m) (hv:vs.length = sz) (h1:vs.all (·.oneCell') = true) (hr:∀ r ∈ rs,r.own = true ∧ r.arg = false) :
  Sep w0 (.lst e sz p m c (es.set i ⟨vs,rs⟩) :: R) (w.setCells g (i * sz) vs) ∧ ∃ (cur:List Value),w.heap[g]? = some (.cells cur.toArray e) ∧ i * sz + sz ≤ cur.length:=by
 have h':Sep w0 (.lst e sz p m c es :: (rs ++ R)) w:=h.perm (by
  refine (List.perm_append_comm (l₁ := rs)).trans ?_
  simp only [List.cons_append]
  exact (List.perm_append_comm (l₁ := R)).cons _)
 obtain ⟨hE,hl,hS⟩:=h'.openL
 subst hp
 obtain ⟨g',cap,cur,hg,rfl,hmc,hcm,hcl,hct,hS⟩:=hS.asBlk (by omega)
 simp only [Option.some.injEq,Addr.mk.injEq,and_true] at hg
 subst hg
 have hle:i * sz + vs.length ≤ m * sz:=by
  rw [hv]
  have:(i + 1) * sz ≤ m * sz:=Nat.mul_le_mul_right _ (by omega)
  rw [Nat.add_mul] at this; omega
 have hmc':m * sz ≤ cur.length:=by rw [hcl]; exact Nat.mul_le_mul_right _ hmc
 refine ⟨?_,cur,hS.blkAt 0 rfl,by omega⟩
 have hS2:=hS.store 0 rfl (i * sz) vs
 simp only [List.set_cons_zero] at hS2
 have hS3:=hS2.ofBlk (sz:=sz) hmc hcm (by rw [wr_length]; exact hcl)
 rw [wr_take _ _ _ _ hle,hct,hE.wr (rs:=rs) hv (by omega)] at hS3
 have hE2:Els sz (es.set i ⟨vs,rs⟩):=hE.set i ⟨hv,h1,hr⟩
 refine Sep.closeL hE2 (by simpa using hl) ?_
 obtain ⟨S,p1,p2⟩:=flatR_set_perm (el:=⟨vs,rs⟩) (rs:=rs) (es:=es) (i:=i) (by omega)
 have hS4:=hS3.perm ((p1.append_right (rs ++ R)).cons _)
 refine (hS4.sub ?_).perm ((p2.symm.append_right R).cons _) (S:=_ :: (flatR (es.set i ⟨vs,rs⟩) ++ R))
 simp only [List.append_assoc]
 exact (List.Sublist.append (List.Sublist.refl S) (List.sublist_append_right _ _)).cons_cons _
theorem ostoreL {ty e:TypeId} {x y:Operand} {p:Option Addr} {g m c i sz off:Nat} {es:List El} (vs:List Value) (rs:List Res) {v:Value} (hsz:∀ w,(sizeOf ty).run P w = .ok sz w) (hS:Sep w0 (rs ++ (.lst e sz p m c es :: R)) w) (hop:o.op = .store ty x y) (ho:o.dst = none)
  (hx:(act n f).eval x = .pointer (some ⟨g,off,none⟩)) (hy:(act n f).eval y = v) (hoff:off = 0 + i * sz) (hcs:v.cells = vs.toArray) (hl:vs.length = sz) (h1:vs.all (·.oneCell') = true) (hp:p = some ⟨g,0,none⟩) (hi:i < m) (hr:(rs.all fun r => r.own && !r.arg) = true)
  (hK:∀ w',Sep w0 (.lst e sz p m c (es.set i ⟨vs,rs⟩) :: R) w' → K (act n f) w'):OW P o (act n f) w K Q:=by
 refine ⟨?_⟩
 rw [Nat.zero_add] at hoff
 subst hoff
 obtain ⟨hS',cur,hb,hle⟩:=hS.lstSet hp hi hl h1 (fun r hr' => by have:=List.all_eq_true.1 hr r hr'; simpa using this)
 have:=hK _ hS'
 unfold Oper.wp
 simp only [execOp,hop,hx,hy]
 rw [Sem.run_bind,run_storeAt_blk hsz hb hcs hl (by rw [Nat.ble_eq]; exact hle) h1,Result.andThen_ok,Sem.run_pure,Oper.upon_skip,ho]
 exact this
theorem flatC_replicate {zs:List Value}:∀ n,flatC (List.replicate n ⟨zs,[]⟩) = (List.replicate n zs).flatten
  | 0 => rfl
  | n + 1 => by simp only [flatC,List.replicate_succ,List.flatMap_cons,List.flatten_cons]; rw [← flatC_replicate n]; rfl
theorem flatR_replicate {zs:List Value}:∀ n,flatR (List.replicate n ⟨zs,[]⟩) = []
  | 0 => rfl
  | n + 1 => by simp only [flatR,List.replicate_succ,List.flatMap_cons,List.nil_append]; exact flatR_replicate n
theorem flatten_get {zs:List Value} (h0:0 < zs.length):∀ (n k:Nat),k < n * zs.length → (List.replicate n zs).flatten[k]? = zs[k % zs.length]?
 | 0,k,h => by omega
 | n + 1,k,h => by
  rw [List.replicate_succ,List.flatten_cons]
  rcases Nat.lt_or_ge k zs.length with hk | hk
  ·rw [List.getElem?_append_left hk,Nat.mod_eq_of_lt hk]
  rw [List.getElem?_append_right hk,flatten_get h0 n _ (by rw [Nat.add_mul] at h; omega),Nat.mod_eq_sub_mod hk]
theorem toList_madeCells {zs:List Value} (h0:0 < zs.length) (n:Nat):(madeCells zs.toArray (n * zs.length)).toList = (List.replicate n zs).flatten:=by
 apply List.ext_getElem?
 intro k
 by_cases hk:k < n * zs.length
 ·rw [flatten_get h0 n k hk]
  simp only [madeCells,Array.toList_map,Array.toList_range,List.getElem?_map,List.getElem?_range hk,Option.map_some,List.size_toArray]
  have:=Nat.mod_lt k h0
  rw [getElem!_pos _ _ (by simpa using this),List.getElem?_eq_getElem this]
  simp
 rw [List.getElem?_eq_none (by simp [madeCells]; omega),List.getElem?_eq_none (by simp; omega)]
theorem New.made {e:TypeId} {zs:List Value} {k m sz:Nat} (w:World) (hsz:zs.length = sz) (h0:0 < sz) (h1:zs.all (·.oneCell') = true) (hkm:k ≤ m) (hm:m ≤ maxLen):New w [.lst e sz (some ⟨w.heap.size,0,none⟩) k m (List.replicate k ⟨zs,[]⟩)] (w.alloc (.cells (madeCells zs.toArray (m * sz)) e)):=by
 refine New.one ((Below.refl _ _).alloc (Nat.le_refl _) _) ⟨?_,by simp,?_,?_⟩ ?_
 ·intro el hel
  rw [(List.mem_replicate.1 hel).2]
  exact ⟨hsz,h1,fun r hr => by cases hr⟩
 ·rw [flatR_replicate]
  intro r hr
  rw [List.mem_singleton.1 hr]
  subst hsz
  refine ⟨?_,.inr ⟨w.heap.size,m,madeCells zs.toArray (m * zs.length),rfl,Nat.zero_le _,heap_alloc_new w _,hkm,hm,by rw [size_madeCells],?_⟩⟩
  ·rw [flatC_replicate]; simp
  rw [toList_madeCells h0,flatC_replicate]
  apply List.ext_getElem?
  intro j
  rw [List.getElem?_take]
  by_cases hj:j < k * zs.length
  ·rw [if_pos hj,flatten_get h0 m j (Nat.lt_of_lt_of_le hj (Nat.mul_le_mul_right _ hkm)),flatten_get h0 k j hj]
  rw [if_neg hj,List.getElem?_eq_none (by simp; omega)]
 ·rw [flatR_replicate]; exact List.pairwise_singleton _ _
 intro g hg
 rcases hg with hg | ⟨r,hr,_⟩
 ·simp only [Option.some.injEq,Addr.mk.injEq,and_true] at hg; omega
 rw [flatR_replicate] at hr; cases hr
theorem run_makeL {t e:TypeId} {zs:List Value} {z:Value} {sz by':Nat} (ht:P.underlying t = some (.slice e)) (hi:(P.info? e).map (fun i => (i.zero,i.size,i.bytes)) = some (some z,sz,by')) (hz:z.cells = zs.toArray) {k m:Nat} (hkm:k ≤ m) (hm:m * by' ≤ 281474976710656) (hm2:m ≤ 9223372036854775807) (w:World) :
  (Instr.makeSlice t (.int .i64 (k:Int)) (.int .i64 (m:Int))).run P w = .ok (.slice (some ⟨w.heap.size,0,none⟩) k m) (w.alloc (.cells (madeCells zs.toArray (m * sz)) e)):=by
 rcases hi':P.info? e with _ | i
 ·rw [hi'] at hi; cases hi
 rw [hi'] at hi
 simp only [Option.map_some,Option.some.injEq,Prod.mk.injEq] at hi
 obtain ⟨h1,h2,h3⟩:=hi
 have hby:(i.bytes:Int) * (m:Int) ≤ 281474976710656:=by
  have h4:((m * by':Nat):Int) ≤ 281474976710656:=by omega
  rw [Int.natCast_mul,Int.mul_comm] at h4
  rw [h3]; exact h4
 have:=run_make (P:=P) w t e i z ht hi' h1 .i64 .i64 k m (by omega) (by omega) hby (by omega)
 rw [h2,hz] at this
 simpa using this
theorem omakeL {t e:TypeId} {x y:Operand} {zs:List Value} {z:Value} {sz by' k m:Nat} (hS:Sep w0 R w) (hop:o.op = .makeSlice t x y) (ho:o.dst = some d) (ht:P.underlying t = some (.slice e)) (hi:(P.info? e).map (fun i => (i.zero,i.size,i.bytes)) = some (some z,sz,by')) (hz:z.cells = zs.toArray) (hsz:zs.length = sz) (h0:0 < sz) (h1:zs.all (·.oneCell') = true)
  (hx:(act n f).eval x = .int .i64 (k:Int)) (hy:(act n f).eval y = .int .i64 (m:Int)) (hkm:k ≤ m) (hm:m * by' ≤ 281474976710656) (hm2:m ≤ 9223372036854775807)
  (hK:∀ g w',Sep w0 (.lst e sz (some ⟨g,0,none⟩) k m (List.replicate k ⟨zs,[]⟩) :: R) w' → K (act n (upd f d (.slice (some ⟨g,0,none⟩) k m))) w'):OW P o (act n f) w K Q:=by
 refine ⟨?_⟩
 have:=hK _ _ (hS.news (New.made (e:=e) w hsz h0 h1 hkm (by simp only [maxLen]; exact hm2)))
 unfold Oper.wp
 simp only [execOp,hop,hx,hy]
 rw [Sem.run_bind,run_makeL ht hi hz hkm hm hm2 w,Result.andThen_ok,Sem.run_pure,Oper.upon_value,ho,act_put]
 exact this
theorem run_appendAt {t ty e:TypeId} {i:TypeInfo} {z:Value} {size bytes:Nat} (ht:P.underlying t = some (.slice e)) (hi:P.info? e = some i) (hz:i.zero = some z)
  (hsize:i.size = size) (hby:i.bytes = bytes) (hzs:z.cells.size = size) (hsz:0 < size) {p:Option Addr} {m c:Nat} {xs:List Value} (hown:w.ownsRow 0 e size (.slice p m c) m xs)
  {a:Addr} {k c2:Nat} {news:List Value} (hl:news.length = k * size) (hnews:∀ j u,news[j]? = some u → w.cell? (a.add j) = some u) (h1:∀ u ∈ news,u.oneCell' = true) (hk:0 < k)
  (h63:m + k ≤ maxLen) (hbytes:(m + k) * bytes ≤ 140737488355328) :
  ∃ p' c' w',(Builtin.append_ #[t,t] ty #[.slice p m c,.slice (some a) k c2]).run P w = .ok (.slice p' (m + k) c') w' ∧ w'.ownsRow 0 e size (.slice p' (m + k) c') (m + k) (xs ++ news) ∧ w.grownBy w' (Value.slice p m c).ownBlock ∧ (p' = p ∨ p' = some ⟨w.heap.size,0,none⟩):=by
 obtain ⟨v',w',hr,h2,h3,_⟩:=run_append_own (P:=P) w 0 t ty e i z size bytes ht hi hz hsize hby hzs hsz _ m xs hown a k c2 news hl hnews h1 h63 hbytes (Nat.zero_le _)
 have hsmall:m + k ≤ 9223372036854775807:=by simp only [maxLen] at h63; omega
 subst hsize; subst hby
 rcases hown.2 with ⟨hv,h0⟩ | ⟨g,cap,cur,hv,hbg,hg,hnc,hcm,hcs,htake⟩
 ·simp only [Value.slice.injEq] at hv
  obtain ⟨rfl,rfl,rfl⟩:=hv
  have hr':=run_append_nil (P:=P) w t ty e i z ht hi hz a k c2 news hl hnews hk (by omega) (by have hb:=hbytes; simp only [Nat.zero_add] at hb; omega)
  rw [hr] at hr'
  simp only [Result.ok.injEq] at hr'
  obtain ⟨rfl,rfl⟩:=hr'
  refine ⟨_,_,_,by simpa using hr,by simpa using h2,h3,.inr rfl⟩
 simp only [Value.slice.injEq,true_and] at hv
 obtain ⟨rfl,rfl⟩:=hv
 by_cases hroom:m + k ≤ c
 ·have hfit:m * i.size + news.length ≤ cur.size:=by rw [hl,hcs, ← Nat.add_mul]; exact Nat.mul_le_mul_right _ hroom
  have hr':=run_append_room (P:=P) w t ty e i ht hi g m c cur hg a k c2 news hl hnews h1 hroom hfit
  rw [hr] at hr'
  simp only [Result.ok.injEq] at hr'
  obtain ⟨rfl,rfl⟩:=hr'
  exact ⟨_,_,_,hr,h2,h3,.inl rfl⟩
 have holds:∀ j u,xs[j]? = some u → w.cell? ((⟨g,0,none⟩:Addr).add j) = some u:=hown.cells (g:=g) rfl
 have hr':=run_append_grow (P:=P) w t ty e i z ht hi hz ⟨g,0,none⟩ m c xs hown.1 holds a k c2 news hl hnews (by omega) (by omega) (growslice_fits (by omega) hbytes)
 rw [hr] at hr'
 simp only [Result.ok.injEq] at hr'
 obtain ⟨rfl,rfl⟩:=hr'
 exact ⟨_,_,_,hr,h2,h3,.inr rfl⟩
theorem Sep.grownL {e:TypeId} {sz m m' c c':Nat} {p p':Option Addr} {cs cs':List Value} {w':World} (h:Sep w0 (.own' e sz p m c cs :: R) w) (hg:w.grownBy w' (Value.slice p m c).ownBlock) (ho:w'.ownsRow 0 e sz (.slice p' m' c') m' cs') (hp:p' = p ∨ p' = some ⟨w.heap.size,0,none⟩):Sep w0 (.own' e sz p' m' c' cs' :: R) w':=by
 have hap:=List.pairwise_cons.1 h.apart
 have hf:∀ k,(Value.slice p m c).ownBlock = some k → (Res.own' e sz p m c cs).foot k:=fun k hk => by
  have hh:=(show (Res.own' e sz p m c cs).holds w from h.holds _ List.mem_cons_self)
  rcases hh.2 with ⟨hv,_⟩ | ⟨g,_,_,hv,_⟩
  ·simp only [Value.slice.injEq] at hv; obtain ⟨rfl,_⟩:=hv; cases hk
  simp only [Value.slice.injEq] at hv; obtain ⟨rfl,_⟩:=hv
  simp only [Value.ownBlock,Option.some.injEq] at hk; subst hk; rfl
 have hlow:∀ k,(Value.slice p m c).ownBlock = some k → w0.heap.size ≤ k:=fun k hk => h.low _ List.mem_cons_self rfl k (hf k hk)
 have hfoot:∀ k,(Res.own' e sz p' m' c' cs').foot k → (Res.own' e sz p m c cs).foot k ∨ k = w.heap.size:=fun k hk => by
  rcases hp with rfl | rfl
  ·exact .inl hk
  have hk':some (⟨w.heap.size,0,none⟩:Addr) = some ⟨k,0,none⟩:=hk
  simp at hk'; exact .inr hk'.symm
 have hbs:=h.below.size
 refine ⟨h.below.grown hg h.below.size hlow,fun r hr => ?_,fun r hr ha k hk => ?_,List.pairwise_cons.2 ⟨fun s hs _ k hk hs' => ?_,hap.2⟩⟩
 ·rcases List.mem_cons.1 hr with rfl | hr
  ·exact ho
  refine r.stays w w' (fun k hk => hg.block k (r.lt w (h.holds r (List.mem_cons_of_mem _ hr)) k hk) (fun e => ?_)) (h.holds r (List.mem_cons_of_mem _ hr))
  exact hap.1 r hr rfl k (hf k e.symm) hk
 ·rcases List.mem_cons.1 hr with rfl | hr
  ·rcases hfoot k hk with hk | rfl
   ·exact h.low _ List.mem_cons_self rfl k hk
   exact hbs
  exact h.low r (List.mem_cons_of_mem _ hr) ha k hk
 rcases hfoot k hk with hk | rfl
 ·exact hap.1 s hs rfl k hk hs'
 have:=s.lt w (h.holds s (List.mem_cons_of_mem _ hs)) _ hs'
 omega
theorem oappendL {t e:TypeId} {x y:Operand} {z:Value} {sz by':Nat} {p:Option Addr} {m c g2 c2 off:Nat} {es:List El} (vs:List Value) (rs:List Res)
  (hS:Sep w0 (rs ++ (.lst e sz p m c es :: R)) w) (hop:o.op = .call { callee:=.builtin .append,args:=#[x,y],argTypes:=#[t,t] }) (ho:o.dst = some d) (ht:P.underlying t = some (.slice e)) (hi:(P.info? e).map (fun i => (i.zero,i.size,i.bytes)) = some (some z,sz,by')) (hzs:z.cells.size = sz) (hsz:0 < sz)
  (hx:(act n f).eval x = .slice p m c) (hy:(act n f).eval y = .slice (some ⟨g2,off,none⟩) 1 c2) (hv:∀ j v,vs[j]? = some v → w.cell? ⟨g2,off + j,none⟩ = some v) (hl:vs.length = sz) (h1:vs.all (·.oneCell') = true) (hr:(rs.all fun r => r.own && !r.arg) = true)
  (hm:(m + 1) * by' ≤ 140737488355328) (hm2:m + 1 ≤ 9223372036854775807)
  (hK:∀ p' c' w',Sep w0 (.lst e sz p' (m + 1) c' (es ++ [⟨vs,rs⟩]) :: R) w' → K (act n (upd f d (.slice p' (m + 1) c'))) w'):OW P o (act n f) w K Q:=by
 rcases hi':P.info? e with _ | i
 ·rw [hi'] at hi; cases hi
 rw [hi'] at hi
 simp only [Option.map_some,Option.some.injEq,Prod.mk.injEq] at hi
 obtain ⟨hi1,hi2,hi3⟩:=hi
 have h':Sep w0 (.lst e sz p m c es :: (rs ++ R)) w:=hS.perm (by
  refine (List.perm_append_comm (l₁ := rs)).trans ?_
  simp only [List.cons_append]
  exact (List.perm_append_comm (l₁ := R)).cons _)
 obtain ⟨hE,hle,hS'⟩:=h'.openL
 have hown:=(show (Res.own' e sz p m c (flatC es)).holds w from hS'.holds _ List.mem_cons_self)
 obtain ⟨p',c',w',hrun,ho',hg,hp'⟩:=run_appendAt (P:=P) (w:=w) (ty:=o.type) (c2:=c2) ht hi' hi1 hi2 hi3 hzs hsz hown (a:=⟨g2,off,none⟩) (k:=1) (news:=vs) (by omega) (fun j u hu => by rw [Addr.add_mid]; exact hv j u hu) (fun u hu => List.all_eq_true.1 h1 u hu) (by omega) (by simp only [maxLen]; omega) hm
 have hS2:=hS'.grownL hg ho' hp'
 have hrr:∀ r ∈ rs,r.own = true ∧ r.arg = false:=fun r hr' => by have:=List.all_eq_true.1 hr r hr'; simpa using this
 have hfin:Sep w0 (.lst e sz p' (m + 1) c' (es ++ [⟨vs,rs⟩]) :: R) w':=by
  refine Sep.closeL (hE.app ⟨hl,h1,hrr⟩) (by simp [hle]) ?_
  have e1:flatC (es ++ [⟨vs,rs⟩]) = flatC es ++ vs:=by simp [flatC]
  have e2:flatR (es ++ [⟨vs,rs⟩]) = flatR es ++ rs:=by simp [flatR]
  rw [e1,e2,List.append_assoc]
  exact hS2
 refine ⟨?_⟩
 have:=hK _ _ _ hfin
 unfold Oper.wp execOp
 simp only [hop,resolve,invoke,builtin,Sem.run_bind,Sem.run_pure,Result.andThen_ok,List.map_toArray,List.map_cons,List.map_nil,hx,hy,hrun]
 show K ((act n f).put o.dst _) w'
 rw [ho,act_put]
 exact this
end
open Go.RowKit
section
variable {P:Program} {o:Oper} {n:Nat} {f:Nat → Value} {w w0:World} {R:List Res} {K:Act → World → Prop} {Q:Exit → Act → World → Prop} {d:Nat}
def Slb (cs:List Value) (t:TypeId) (len:Nat):Tell:=fun v r => ∃ g,v = .slice (some ⟨g,0,none⟩) len len ∧ r = [.blk g cs t]
theorem obsliceN {t e:TypeId} {len sz:Nat} {parts:Array (Nat × Operand)} {ps:Array (Nat × Value)} {z:Value} (cs:List Value) (hop:o.op = .buildSlice t len parts) (ho:o.dst = some d) (ht:∀ w,(underlying t).run P w = .ok (.slice e) w) (hs:∀ w,(sizeOf e).run P w = .ok sz w) (hz:∀ w,(zeroValue e).run P w = .ok z w)
  (hx:(parts.map fun (i,x) => (i,(act n f).eval x)) = ps) (hle:Nat.ble (len * sz) 16777216 = true) (h0:len * sz ≠ 0) (hf:Instr.fill (fun i => some (i * sz,sz)) ((Array.range (len * sz)).map (z.cells[· % z.cells.size]!)) ps.toList = some cs.toArray)
  (hK:K (act n (upd f d (.slice (some ⟨w.heap.size,0,none⟩) len len))) (w.alloc (.cells cs.toArray e))):OW P o (act n f) w K Q:=by
 refine ⟨?_⟩
 unfold Oper.wp
 have hle':¬ (len * sz > 2 ^ 24):=by have:=Nat.le_of_ble_eq_true hle; omega
 simp only [execOp,hop]
 rw [hx]
 simp [Instr.buildSlice,ht,hs,hz,hle',h0,hf,newRow]
 rw [Oper.upon_value,ho,act_put]
 exact hK
theorem obslice {t e:TypeId} {len sz:Nat} {parts:Array (Nat × Operand)} {ps:Array (Nat × Value)} {z:Value} (cs:List Value) (hS:Sep w0 R w) (hop:o.op = .buildSlice t len parts) (ho:o.dst = some d) (ht:∀ w,(underlying t).run P w = .ok (.slice e) w) (hs:∀ w,(sizeOf e).run P w = .ok sz w) (hz:∀ w,(zeroValue e).run P w = .ok z w)
  (hx:(parts.map fun (i,x) => (i,(act n f).eval x)) = ps) (hle:Nat.ble (len * sz) 16777216 = true) (h0:len * sz ≠ 0) (hf:Instr.fill (fun i => some (i * sz,sz)) ((Array.range (len * sz)).map (z.cells[· % z.cells.size]!)) ps.toList = some cs.toArray)
  (hK:∀ g w',Sep w0 (.blk g cs e :: R) w' → K (act n (upd f d (.slice (some ⟨g,0,none⟩) len len))) w'):OW P o (act n f) w K Q :=
 obsliceN cs hop ho ht hs hz hx hle h0 hf (hK _ _ (hS.alloc cs e))
end
theorem fill2 {u v a b c d:Value}:Instr.fill (fun i => some (i * 2,2)) ((Array.range (2 * 2)).map ((Value.agg #[u,v]).cells[· % (Value.agg #[u,v]).cells.size]!)) #[(0,.agg #[a,b]),(1,.agg #[c,d])].toList = some [a,b,c,d].toArray:=by
 simp [Instr.fill,Value.cells,Array.range]
 apply Array.ext
 ·simp
 intro i h1 h2
 have h3:i = 0 ∨ i = 1 ∨ i = 2 ∨ i = 3:=by simp at h2; omega
 rcases h3 with rfl | rfl | rfl | rfl <;> simp
theorem fill2_1 {u0 u1 a0_0 a0_1:Value}:Instr.fill (fun i => some (i * 2,2)) ((Array.range (1 * 2)).map ((Value.agg #[u0,u1]).cells[· % (Value.agg #[u0,u1]).cells.size]!)) #[(0,.agg #[a0_0,a0_1])].toList = some [a0_0,a0_1].toArray:=by
 simp [Instr.fill,Value.cells,Array.range]
 apply Array.ext
 ·simp
 intro i h1 h2
 have h3:i = 0 ∨ i = 1:=by simp at h2; omega
 rcases h3 with rfl | rfl <;> simp
theorem Wd.lcm {x y z:Int} {k l m:Nat} (hx:Wd x k) (hy:Wd y l) (hz:Hid ((Int.lcm x y:Int) = z)) (h:k + l ≤ m):Wd z m:=by
 have hz':=hz.out; subst hz'
 unfold Wd at *
 rw [Int.natAbs_natCast]
 have h1:Int.lcm x y ≤ x.natAbs * y.natAbs:=by
  unfold Int.lcm Nat.lcm
  exact Nat.div_le_self _ _
 exact llv_le h1 (llv_mul hx hy h)
theorem infoInt:(Tryz.prog.info? 28).map (fun i => (i.zero,i.size,i.bytes)) = some (some (.agg #[.bool false,.slice none 0 0]),2,32):=by kernel_rfl
theorem infoRat:(Tryz.prog.info? 43).map (fun i => (i.zero,i.size,i.bytes)) = some (some (.agg #[.bool false,.slice none 0 0,.bool false,.slice none 0 0]),4,64):=by kernel_rfl
def Cpm (b:Bool) (n:Nat) (xs:List Nat):Tell:=fun v r => ∃ p c,v = .agg #[.bool b,.slice p n c] ∧ r = [.rowm p n c xs]
theorem Cpt.m {b:Bool} {n:Nat} {xs:List Nat} {w:World} (e:Ending) (w':World) (h:Ret (Cpt b n xs) w e w'):Ret (Cpm b n xs) w e w':=by
  obtain ⟨_,_,rfl,⟨p,c,rfl,rfl⟩,hN⟩:=h
  refine ⟨_,_,rfl,⟨p,c,rfl,rfl⟩,New.one hN.below ?_ (fun g hg => hN.high (.row p n c xs) List.mem_cons_self g hg)⟩
  exact (show Fr 0 w' p n c xs from hN.holds (.row p n c xs) List.mem_cons_self)
theorem Sep.newR {R:List Res} {w w':World} (h:Sep w R w') (k:Nat) {r:Res} (hk:R[k]? = some r) (ha:r.arg = false):New w [r] w' :=
  New.one h.below (h.get k hk) (fun g hg => h.low r (List.mem_of_getElem? hk) ha g hg)
theorem Ret.mono {T T':Tell} {w:World} (h:∀ v r,T v r → T' v r) (e:Ending) (w':World) (hr:Ret T w e w'):Ret T' w e w':=by
  obtain ⟨v,r,h1,h2,h3⟩:=hr; exact ⟨v,r,h1,h v r h2,h3⟩
end Go.Proofs.YtnlnibngpeempaaGreatDoor
