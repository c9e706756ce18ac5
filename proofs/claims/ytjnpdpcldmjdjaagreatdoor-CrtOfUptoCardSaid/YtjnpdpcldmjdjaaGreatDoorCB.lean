/-
  Contracts and lemmas, joined in one text.
-/
import Derived.Test.YtjnpdpcldmjdjaaGreatDoorCA
import Derived.Test.YtjnpdpcldmjdjaaGreatDoorPrime
import Derived.Test.YtjnpdpcldmjdjaaGreatDoorMR
import Derived.Test.YtjnpdpcldmjdjaaGreatDoorMr
import Derived.Test.YtjnpdpcldmjdjaaGreatDoorZB
set_option linter.unusedVariables false
set_option linter.unusedSimpArgs false
/-
  slices.Clone of numbers and of pairs.
-/
set_option maxRecDepth 100000
set_option maxHeartbeats 16000000
namespace Go.Proofs.YtjnpdpcldmjdjaaGreatDoor
open Go.RowKit
section
variable {P:Program} {o:Oper} {n:Nat} {f:Nat → Value} {w w0:World} {R:List Res} {K:Act → World → Prop} {Q:Exit → Act → World → Prop} {d:Nat}
theorem obslice0 {t e:TypeId} {sz:Nat} (hS:Sep w0 R w) (hop:o.op = .buildSlice t 0 #[]) (ho:o.dst = some d) (ht:∀ w,(underlying t).run P w = .ok (.slice e) w) (hs:∀ w,(sizeOf e).run P w = .ok sz w)
  (hK:∀ g w',Sep w0 (.blk g [] e :: R) w' → K (act n (upd f d (.slice (some ⟨g,0,none⟩) 0 0))) w'):OW P o (act n f) w K Q:=by
 refine ⟨?_⟩
 have:=hK _ _ (hS.alloc [] e)
 unfold Oper.wp
 simp only [execOp,hop]
 simp [Instr.buildSlice,ht,hs,Instr.fill,newRow]
 rw [Oper.upon_value,ho,act_put]
 have e0:(Array.range 0).map (fun _ => (default:Value)) = #[]:=by simp
 rw [e0]
 exact this
theorem oappend0 {t e:TypeId} {x y:Operand} {z:Value} {sz by':Nat} {g m c2:Nat} {a:Addr} (news:List Value) (hS:Sep w0 (.blk g [] e :: R) w) (hop:o.op = .call { callee:=.builtin .append,args:=#[x,y],argTypes:=#[t,t] }) (ho:o.dst = some d) (ht:P.underlying t = some (.slice e)) (hi:(P.info? e).map (fun i => (i.zero,i.size,i.bytes)) = some (some z,sz,by')) (hzs:z.cells.size = sz) (hsz:0 < sz)
  (hx:(act n f).eval x = .slice (some ⟨g,0,none⟩) 0 0) (hy:(act n f).eval y = .slice (some a) m c2) (hl:news.length = m * sz) (hnews:∀ j u,news[j]? = some u → w.cell? (a.add j) = some u) (h1:∀ u ∈ news,u.oneCell' = true) (h63:m ≤ 9223372036854775807) (hb:m * by' ≤ 140737488355328)
  (hK:∀ p' c' w',Sep w0 (.own' e sz p' m c' news :: R) w' → K (act n (upd f d (.slice p' m c'))) w'):OW P o (act n f) w K Q:=by
 rcases hi':P.info? e with _ | i
 ·rw [hi'] at hi; cases hi
 rw [hi'] at hi
 simp only [Option.map_some,Option.some.injEq,Prod.mk.injEq] at hi
 obtain ⟨hi1,hi2,hi3⟩:=hi
 have hS':=hS.ofBlk (sz:=sz) (m:=0) (cap:=0) (Nat.le_refl _) (Nat.zero_le _) (by simp)
 have hown:=(show (Res.own' e sz (some ⟨g,0,none⟩) 0 0 (([]:List Value).take (0 * sz))).holds w from hS'.holds _ List.mem_cons_self)
 have hfin:∃ p' c' w',(Builtin.append_ #[t,t] o.type #[.slice (some ⟨g,0,none⟩) 0 0,.slice (some a) m c2]).run P w = .ok (.slice p' m c') w' ∧ Sep w0 (.own' e sz p' m c' news :: R) w':=by
  rcases Nat.eq_zero_or_pos m with h0 | h0
  ·subst h0
   obtain rfl:news = []:=List.eq_nil_of_length_eq_zero (by simpa using hl)
   have hr:=run_append_room (P:=P) w t o.type e i ht hi' g 0 0 #[] (hS.blkAt 0 rfl) a 0 c2 [] (by simp) hnews h1 (by simp) (by simp)
   obtain ⟨v',w',hr0,h2,h3,_⟩:=run_append_own (P:=P) w 0 t o.type e i z sz by' ht hi' hi1 hi2 hi3 hzs hsz _ 0 _ hown a 0 c2 [] (by simp) hnews h1 (by simp) (by simp) (Nat.zero_le _)
   rw [hr0] at hr
   simp only [Result.ok.injEq] at hr
   obtain ⟨rfl,rfl⟩:=hr
   exact ⟨_,_,_,hr0,by simpa using hS'.grownL (m':=0) (c':=0) (cs':=[]) h3 (by simpa using h2) (.inl rfl)⟩
  obtain ⟨p',c',w',hrun,ho',hg,hp'⟩:=run_appendAt (P:=P) (w:=w) (ty:=o.type) (c2:=c2) ht hi' hi1 hi2 hi3 hzs hsz hown (a:=a) (k:=m) (news:=news) hl hnews h1 h0 (by simp only [maxLen]; omega) (by rw [Nat.zero_add]; exact hb)
  have hS2:=hS'.grownL hg ho' hp'
  rw [Nat.zero_add] at hrun hS2
  exact ⟨p',c',w',hrun,by simpa using hS2⟩
 obtain ⟨p',c',w',hrun,hfin⟩:=hfin
 refine ⟨?_⟩
 have:=hK _ _ _ hfin
 unfold Oper.wp execOp
 simp only [hop,resolve,invoke,builtin,Sem.run_bind,Sem.run_pure,Result.andThen_ok,List.map_toArray,List.map_cons,List.map_nil,hx,hy,hrun]
 show K ((act n f).put o.dst _) w'
 rw [ho,act_put]
 exact this
end
theorem Sep.ownRow {w0 w:World} {R:List Res} {p:Option Addr} {n c:Nat} {xs:List Nat} (h:Sep w0 (.own' 38 1 p n c (xs.map fun x:Nat => Value.int .u32 (x:Int)) :: R) w) (hl:xs.length = n) (hx:Lims xs):Sep w0 (.rowm p n c xs :: R) w:=by
  have hh:=(show (Res.own' 38 1 p n c (xs.map fun x:Nat => Value.int .u32 (x:Int))).holds w from h.holds _ List.mem_cons_self)
  exact h.change 0 (r':=.rowm p n c xs) rfl rfl rfl (fun k hk => hk) ⟨rfl,rfl,rfl,rfl,fun _ _ => rfl⟩ (w':=w) (⟨hl,hx,hh⟩:Fr 0 w p n c xs)
theorem Sep.ownLst {w0 w:World} {R:List Res} {e:TypeId} {sz n c:Nat} {p:Option Addr} {L:List (List Value)} (h:Sep w0 (.own' e sz p n c L.flatten :: R) w) (hl:L.length = n) (hL:∀ x ∈ L,x.length = sz ∧ x.all (·.oneCell') = true):Sep w0 (.lst e sz p n c (L.map fun x => ⟨x,[]⟩) :: R) w:=by
 refine Sep.closeL (fun el hel => ?_) (by simpa using hl) ?_
 ·obtain ⟨x,hx,rfl⟩:=List.mem_map.1 hel
  exact ⟨(hL x hx).1,(hL x hx).2,fun r hr => by cases hr⟩
 have e1:flatC (L.map fun x => (⟨x,[]⟩:El)) = L.flatten:=by
  unfold flatC; rw [List.flatMap_map]; exact List.flatMap_id'
 have e2:flatR (L.map fun x => (⟨x,[]⟩:El)) = []:=by
  unfold flatR; rw [List.flatMap_map]; simp
 rw [e1,e2]
 exact h
theorem Sl.news {w:World} {a:Addr} {n c:Nat} {xs:List Nat} (h:Sl w (some a) n c xs):∀ j u,(xs.map fun x:Nat => Value.int .u32 (x:Int))[j]? = some u → w.cell? (a.add j) = some u:=fun j u hu => by
  rw [List.getElem?_map,Option.map_eq_some_iff] at hu
  obtain ⟨x,hx,rfl⟩:=hu
  have hj:j < xs.length:=(List.getElem?_eq_some_iff.1 hx).1
  obtain ⟨b,off,hp,hc⟩:=h.cell j (by rw [← h.len]; exact hj)
  simp only [Option.some.injEq] at hp
  subst hp
  rw [Addr.add_mid,hc,nd_get hj]
  rw [List.getElem?_eq_getElem hj] at hx
  simp at hx
  rw [hx]
theorem infouint32:(Tryz.prog.info? 38).map (fun i => (i.zero,i.size,i.bytes)) = some (some (.int .u32 0),1,4):=by kernel_rfl
theorem infoRest:(Tryz.prog.info? 45).map (fun i => (i.zero,i.size,i.bytes)) = some (some (.agg #[.int .u32 0,.int .u32 0]),2,8):=by kernel_rfl
def dig (v m r p:Nat):Nat:=((r % p) % p + p - (v % p) % p) % p * ((m % p) ^ (p - 2) % p) % p
def cst (s:Nat × Nat) (x:Nat × Nat):Nat × Nat:=(s.1 + s.2 * dig s.1 s.2 x.1 x.2,s.2 * x.2)
def cv (l:List (Nat × Nat)):Nat × Nat:=l.foldl cst (0,1)
def dst (s:(Nat × Nat) × List Nat) (x:Nat × Nat):(Nat × Nat) × List Nat:=(cst s.1 x,s.2 ++ [dig s.1.1 s.1.2 x.1 x.2])
def dgs (l:List (Nat × Nat)):List Nat:=(l.foldl dst ((0,1),[])).2
def rps (l:List (Nat × Nat)):List (Nat × Nat):=l.map fun x => (x.1 % x.2,x.2)
def mods (l:List (Nat × Nat)):List Nat:=l.map Prod.snd
def Gd (l:List (Nat × Nat)):Prop:=(∀ x ∈ l,MR.Pr x.2) ∧ (mods l).Nodup
theorem cv_snoc (l:List (Nat × Nat)) (x:Nat × Nat):cv (l ++ [x]) = cst (cv l) x:=by simp [cv]
theorem dst_fst (l:List (Nat × Nat)):∀ s,(l.foldl dst s).1 = l.foldl cst s.1:=by
  induction l with
  | nil => intro s; rfl
  | cons x l ih => intro s; simp only [List.foldl_cons]; rw [ih]; rfl
theorem dgs_snoc (l:List (Nat × Nat)) (x:Nat × Nat):dgs (l ++ [x]) = dgs l ++ [dig (cv l).1 (cv l).2 x.1 x.2]:=by
  have h:=dst_fst l ((0,1),[])
  simp only [dgs,List.foldl_append,List.foldl_cons,List.foldl_nil,dst,h]
  rfl
theorem dgs_len (l:List (Nat × Nat)):(dgs l).length = l.length:=by
  suffices h:∀ (l:List (Nat × Nat)) s,(l.foldl dst s).2.length = s.2.length + l.length by simpa [dgs] using h l ((0,1),[])
  intro l
  induction l with
  | nil => intro s; simp
  | cons x l ih => intro s; simp only [List.foldl_cons]; rw [ih]; simp [dst]; omega
theorem rps_snoc (l:List (Nat × Nat)) (x:Nat × Nat):rps (l ++ [x]) = rps l ++ [(x.1 % x.2,x.2)]:=by simp [rps]
theorem mods_snoc (l:List (Nat × Nat)) (x:Nat × Nat):mods (l ++ [x]) = mods l ++ [x.2]:=by simp [mods]
theorem Gd.nil:Gd []:=⟨fun _ h => absurd h (by simp),by simp [mods]⟩
theorem Gd.snoc {l:List (Nat × Nat)} {x:Nat × Nat}:Gd (l ++ [x]) ↔ Gd l ∧ MR.Pr x.2 ∧ x.2 ∉ mods l:=by
 unfold Gd
 rw [mods_snoc,List.nodup_append]
 constructor
 ·rintro ⟨h1,h2,_,h4⟩
  refine ⟨⟨fun y hy => h1 y (List.mem_append_left _ hy),h2⟩,h1 x (by simp),fun hm => h4 _ hm _ (by simp) rfl⟩
 rintro ⟨⟨h1,h2⟩,h3,h4⟩
 refine ⟨fun y hy => ?_,h2,by simp,fun a ha b hb e => ?_⟩
 ·rcases List.mem_append.1 hy with h | h
  ·exact h1 y h
  rw [List.mem_singleton.1 h]; exact h3
 rw [List.mem_singleton.1 hb] at e; exact h4 (e ▸ ha)
theorem snoc_ind {α : Type} {P:List α → Prop} (h0:P []) (h1:∀ l x,P l → P (l ++ [x])) (l:List α):P l:=by
  rw [← List.reverse_reverse l]
  induction l.reverse with
  | nil => exact h0
  | cons x t ih => rw [List.reverse_cons]; exact h1 _ _ ih
theorem cv_apart {l:List (Nat × Nat)}:Gd l → ∀ {p:Nat},MR.Pr p → p ∉ mods l → ¬ p ∣ (cv l).2:=by
 induction l using snoc_ind with
 | h0 => intro _ p hp _ hd; have:=hp.1; have:=Nat.le_of_dvd (by decide) hd; simp [cv] at this; omega
 | h1 l x ih =>
  intro h p hp hn hd
  obtain ⟨g1,g2,g3⟩:=Gd.snoc.1 h
  rw [mods_snoc] at hn
  rw [cv_snoc] at hd
  rcases hp.dvd_mul hd with h' | h'
  ·exact ih g1 hp (fun hm => hn (List.mem_append_left _ hm)) h'
  rcases g2.2 _ h' with e | e
  ·have:=hp.1; omega
  exact hn (by rw [e]; simp)
theorem dig_lt {v m r p:Nat} (hp:0 < p):dig v m r p < p:=Nat.mod_lt _ hp
theorem cv_pos {l:List (Nat × Nat)}:Gd l → 0 < (cv l).2:=by
 induction l using snoc_ind with
 | h0 => intro _; decide
 | h1 l x ih =>
  intro h
  obtain ⟨g1,g2,g3⟩:=Gd.snoc.1 h
  rw [cv_snoc]
  exact Nat.mul_pos (ih g1) (by have:=g2.1; omega)
theorem cv_lt {l:List (Nat × Nat)}:Gd l → (cv l).1 < (cv l).2:=by
 induction l using snoc_ind with
 | h0 => intro _; decide
 | h1 l x ih =>
  intro h
  obtain ⟨g1,g2,g3⟩:=Gd.snoc.1 h
  have h1:=ih g1
  have hd:=dig_lt (v:=(cv l).1) (m:=(cv l).2) (r:=x.1) (show 0 < x.2 by have:=g2.1; omega)
  rw [cv_snoc]
  show (cv l).1 + (cv l).2 * dig _ _ _ _ < (cv l).2 * x.2
  have h2:=Nat.mul_le_mul_left (cv l).2 (show dig (cv l).1 (cv l).2 x.1 x.2 + 1 ≤ x.2 from hd)
  rw [Nat.mul_add,Nat.mul_one] at h2
  omega
theorem Gd.perm {l l':List (Nat × Nat)} (h:Gd l) (hp:l.Perm l'):Gd l':=⟨fun x hx => h.1 x (hp.mem_iff.2 hx),(hp.map Prod.snd).nodup_iff.1 h.2⟩
theorem cv_bd {l:List (Nat × Nat)}:(∀ x ∈ l,x.2 < 4294967296) → (cv l).2 ≤ 4294967296 ^ l.length:=by
 induction l using snoc_ind with
 | h0 => intro _; decide
 | h1 l x ih =>
  intro h
  rw [cv_snoc,List.length_append]
  show (cv l).2 * x.2 ≤ 4294967296 ^ (l.length + 1)
  rw [Nat.pow_succ]
  exact Nat.mul_le_mul (ih fun y hy => h y (List.mem_append_left _ hy)) (Nat.le_of_lt (h x (by simp)))
open Classical in
noncomputable def eno (seen:List Nat) (p:Nat):Nat:=if MR.Pr p then (if p ∈ seen then 60 else 0) else 40
noncomputable def code:List Nat → List (Nat × Nat) → Nat
  | _,[] => 0
  | seen,x :: t => if eno seen x.2 = 0 then code (seen ++ [x.2]) t else eno seen x.2
theorem eno_np {seen:List Nat} {p:Nat} (h:¬ MR.Pr p):eno seen p = 40:=by simp [eno,h]
theorem eno_in {seen:List Nat} {p:Nat} (h:MR.Pr p) (h2:p ∈ seen):eno seen p = 60:=by simp [eno,h,h2]
theorem eno_ok {seen:List Nat} {p:Nat} (h:MR.Pr p) (h2:p ∉ seen):eno seen p = 0:=by simp [eno,h,h2]
theorem eno_zero {seen:List Nat} {p:Nat}:eno seen p = 0 ↔ MR.Pr p ∧ p ∉ seen:=by
 constructor
 ·intro h
  refine ⟨Classical.byContradiction fun h' => ?_,fun h' => ?_⟩
  ·rw [eno_np h'] at h; cases h
  by_cases hp:MR.Pr p
  ·rw [eno_in hp h'] at h; cases h
  rw [eno_np hp] at h; cases h
 rintro ⟨h1,h2⟩; exact eno_ok h1 h2
theorem code_from:∀ (l:List (Nat × Nat)) (pre:List (Nat × Nat)),Gd pre → (code (mods pre) l = 0 ↔ Gd (pre ++ l))
 | [],pre,h => by simp [code,h]
 | x :: t,pre,h => by
  rw [code]
  by_cases e:eno (mods pre) x.2 = 0
  ·rw [if_pos e, ← mods_snoc]
   have hg:Gd (pre ++ [x]):=Gd.snoc.2 ⟨h,eno_zero.1 e⟩
   rw [code_from t _ hg,List.append_assoc]
   rfl
  rw [if_neg e]
  refine ⟨fun h' => absurd h' e,fun h' => absurd (eno_zero.2 ?_) e⟩
  have h1:Gd (pre ++ [x]):=by
   refine ⟨fun y hy => h'.1 y ?_,?_⟩
   ·rcases List.mem_append.1 hy with h | h
    ·exact List.mem_append_left _ h
    exact List.mem_append_right _ (by rw [List.mem_singleton.1 h]; simp)
   have h2:=h'.2
   rw [show pre ++ x :: t = (pre ++ [x]) ++ t by simp] at h2
   unfold mods at *
   rw [List.map_append] at h2
   exact (List.nodup_append.1 h2).1
  exact (Gd.snoc.1 h1).2
theorem code_gd {l:List (Nat × Nat)}:code [] l = 0 ↔ Gd l:=code_from l [] Gd.nil
theorem code_split:∀ (pre l:List (Nat × Nat)) (seen:List Nat),code seen pre = 0 → code seen (pre ++ l) = code (seen ++ mods pre) l
 | [],l,seen,_ => by simp [mods]
 | x :: t,l,seen,h => by
  rw [code] at h
  by_cases e:eno seen x.2 = 0
  ·rw [if_pos e] at h
   rw [List.cons_append,code,if_pos e,code_split t l _ h]
   simp [mods]
  rw [if_neg e] at h; exact absurd h e
theorem code_bad {l:List (Nat × Nat)} {i:Nat} {x:Nat × Nat} (hx:l[i]? = some x) (hg:Gd (l.take i)) (he:eno (mods (l.take i)) x.2 ≠ 0):code [] l = eno (mods (l.take i)) x.2:=by
  obtain ⟨hi,rfl⟩:=List.getElem?_eq_some_iff.1 hx
  have h1:=code_split (l.take i) (l.drop i) [] (code_gd.2 hg)
  rw [List.take_append_drop,List.nil_append] at h1
  rw [h1,List.drop_eq_getElem_cons hi,code,if_neg he]
def slift (v m:Nat):Int:=if v + v ≤ m then (v:Int) else (v:Int) - (m:Int)
open Go.RowKit
def rgo (b:Int):Nat → Int → Int → Int → Int → Int × Int
  | 0,_,r1,_,x1 => (r1,x1)
  | k + 1,r0,r1,x0,x1 => if r1 ≤ b then (r1,x1) else rgo b k r1 (r0 % r1) x1 (x0 - r0 / r1 * x1)
theorem rgo_end {b r0 r1 x0 x1:Int} (h:r1 ≤ b):∀ k,rgo b k r0 r1 x0 x1 = (r1,x1)
  | 0 => rfl
  | k + 1 => by rw [rgo,if_pos h]
theorem rgo_fuel {b:Int} (hb:0 ≤ b):∀ (k j:Nat) (r0 r1 x0 x1:Int),0 ≤ r1 → r1.natAbs ≤ k → r1.natAbs ≤ j → rgo b k r0 r1 x0 x1 = rgo b j r0 r1 x0 x1
 | 0,j,r0,r1,x0,x1,h0,h1,h2 => by rw [rgo_end (by omega) j]; rfl
 | k + 1,0,r0,r1,x0,x1,h0,h1,h2 => by rw [rgo_end (by omega) (k + 1)]; rfl
 | k + 1,j + 1,r0,r1,x0,x1,h0,h1,h2 => by
  by_cases h:r1 ≤ b
  ·rw [rgo_end h,rgo_end h]
  rw [rgo,rgo,if_neg h,if_neg h]
  have h3:=Int.emod_nonneg r0 (b:=r1) (by omega)
  have h4:=Int.emod_lt_of_pos r0 (b:=r1) (by omega)
  exact rgo_fuel hb k j _ _ _ _ h3 (by omega) (by omega)
theorem rgo_step {b r0 r1 x0 x1 q r m x:Int} {T:Int × Int} (hb:0 ≤ b) (h:¬ r1 ≤ b) (hT:rgo b r1.natAbs r0 r1 x0 x1 = T) (hq:Hid (r0 / r1 = q)) (hr:Hid (r0 % r1 = r)) (hm:Hid (q * x1 = m)) (hx:Hid (x0 - m = x)):rgo b r.natAbs r1 r x1 x = T:=by
  have h3:=Int.emod_nonneg r0 (b:=r1) (by omega)
  have h4:=Int.emod_lt_of_pos r0 (b:=r1) (by omega)
  rw [← hT]
  obtain ⟨k,hk⟩:∃ k,r1.natAbs = k + 1:=⟨r1.natAbs - 1,by omega⟩
  rw [hk,rgo,if_neg h, ← hx.out, ← hm.out, ← hq.out, ← hr.out]
  exact rgo_fuel hb _ _ _ _ _ _ h3 (Nat.le_refl _) (by omega)
def rcs (v m b:Nat):Int × Int:=rgo b v m v 0 1
def sfix (t:Int × Int):Int × Int:=if t.2 < 0 then (-t.1, -t.2) else t
def rcOk (m b:Nat) (t:Int × Int):Bool:=decide (t.2 ≠ 0) && decide (t.2 ≤ b) && decide (Int.gcd t.1 t.2 = 1) && decide (Int.gcd t.2 m = 1)
def rce (v m b:Nat):Nat:=if v < m ∧ b * b + b * b < m then (if rcOk m b (sfix (rcs v m b)) then 0 else 61) else 1
def rcx (v m b:Nat):Int:=if rce v m b = 0 then (sfix (rcs v m b)).1 else 0
def rcy (v m b:Nat):Int:=if rce v m b = 0 then (sfix (rcs v m b)).2 else 0
open Go.RowKit
theorem wclone0 {w:World} :
  Calls Tryz.prog 48 #[.slice none 0 0] w (Ret (Nw []) w):=by
 have hS:=Sep.init w
 refine went Tryz.func48 rfl (n:=8) rfl rfl ?_
 refine wsr (wavc ?_)
 refine wn1 (wSq (wsr (wmv rfl rfl ?_)))
 refine wbc (z:=.bool true) rfl rfl (bin_eqlS Tryz.underlying24 rfl) ?_
 refine wn1 ?_
 refine wT (ev rfl rfl) ?_
 refine wsr (wavc ?_)
 refine wn1 ?_
 refine wLv ?_
 refine thenR ?_
 refine wr1 Tryz.results48 (tlT (v:=.slice none 0 0) rfl rfl) ?_
 exact ⟨_,_,rfl,⟨_,_,_,rfl,rfl⟩,hS.nilRowm.newR 0 rfl rfl⟩
theorem wclone1 {a:Addr} {n c:Nat} {xs:List Nat} {w:World} (h:Sl w (some a) n c xs) (hn:n ≤ 4294967296) :
  Calls Tryz.prog 48 #[.slice (some a) n c] w (Ret (Nw xs) w):=by
 have hS:=Sep.init w
 refine went Tryz.func48 rfl (n:=8) rfl rfl ?_
 refine wsr (wavc ?_)
 refine wn1 (wSq (wsr (wmv rfl rfl ?_)))
 refine wbc (z:=.bool false) rfl rfl (bin_eqlS Tryz.underlying24 rfl) ?_
 refine wn1 ?_
 refine wF (ev rfl rfl) ?_
 refine wSk (tNo (wsr (wl rfl (obslice0 hS rfl rfl Tryz.runUnderlying24 Tryz.sizeOf38 ?_))))
 clear hS; intro g1 w2 hS
 refine wmv rfl rfl ?_
 refine wl rfl (oappend0 (g:=g1) (m:=n) (c2:=c) (xs.map fun x:Nat => Value.int .u32 (x:Int)) hS rfl rfl Tryz.underlying24 infouint32 rfl (by decide) (ev rfl rfl) (ev rfl rfl) (by rw [List.length_map,h.len,Nat.mul_one]) ((h.below hS.below (Nat.le_refl _)).news) (fun u hu => by obtain ⟨x,_,rfl⟩:=List.mem_map.1 hu; rfl) (by omega) (by omega) ?_)
 clear hS; intro p4 c5 w3 hS
 replace hS:=hS.ownRow h.len h.lims
 refine wav rfl rfl ?_
 refine wn1 ?_
 refine wLv ?_
 refine wr1 Tryz.results48 (tlT (v:=.slice p4 n c5) rfl rfl) ?_
 exact ⟨_,_,rfl,⟨_,_,_,rfl,rfl⟩,hS.newR 0 rfl rfl⟩
theorem wclone {p:Option Addr} {n c:Nat} {xs:List Nat} {w:World} (h:Sl w p n c xs) (hn:n ≤ 4294967296):Calls Tryz.prog 48 #[.slice p n c] w (Ret (Nw xs) w):=by
 rcases p with _ | a
 ·have hc:=h.isnil rfl
  have hl:=h.le
  obtain rfl:c = 0:=hc
  obtain rfl:n = 0:=by omega
  obtain rfl:xs = []:=List.eq_nil_of_length_eq_zero h.len
  exact wclone0
 exact wclone1 h hn
def RS (w:World) (p:Option Addr) (n:Nat) (L:List (Nat × Nat)):Prop:=L.length = n ∧ (p = none → n = 0) ∧ ∀ (i:Nat) (x:Nat × Nat),L[i]? = some x → ∃ b off,p = some ⟨b,off,none⟩ ∧ ∀ (j:Nat) (v:Value),[Value.int .u32 (x.1:Int),.int .u32 (x.2:Int)][j]? = some v → w.cell? ⟨b,off + i * 2 + j,none⟩ = some v
theorem RS.on {w w':World} {p:Option Addr} {n B:Nat} {L:List (Nat × Nat)} (h:RS w p n L) (hb:Below B w w') (hB:w.heap.size ≤ B):RS w' p n L:=by
  refine ⟨h.1,h.2.1,fun i x hx => ?_⟩
  obtain ⟨b,off,hp,hc⟩:=h.2.2 i x hx
  refine ⟨b,off,hp,fun j v hj => ?_⟩
  have h1:=hc j v hj
  have hlt:=World.block_lt_of_cell? w _ h1
  exact (hb.cell (p:=⟨b,off + i * 2 + j,none⟩) (Nat.lt_of_lt_of_le hlt hB)).trans h1
theorem RS.at {w w':World} {R:List Res} {p:Option Addr} {n:Nat} {L:List (Nat × Nat)} (h:RS w p n L) (hS:Sep w R w'):RS w' p n L:=h.on hS.below (Nat.le_refl _)
def rcell (x:Nat × Nat):List Value:=[.int .u32 (x.1:Int),.int .u32 (x.2:Int)]
def rpE (l:List (Nat × Nat)):List El:=(l.map rcell).map fun x => ⟨x,[]⟩
def dgE (l:List Nat):List El:=(l.map fun d:Nat => [Value.int .u32 (d:Int)]).map fun x => ⟨x,[]⟩
theorem rpE_app (l:List (Nat × Nat)) (x:Nat × Nat):rpE (l ++ [x]) = rpE l ++ [⟨[.int .u32 (x.1:Int),.int .u32 (x.2:Int)],[]⟩]:=by simp [rpE,rcell]
theorem dgE_app (l:List Nat) (d:Nat):dgE (l ++ [d]) = dgE l ++ [⟨[.int .u32 (d:Int)],[]⟩]:=by simp [dgE]
theorem rpE_els (l:List (Nat × Nat)):Els 2 (rpE l):=fun el hel => by
  obtain ⟨x,hx,rfl⟩:=List.mem_map.1 hel
  obtain ⟨y,_,rfl⟩:=List.mem_map.1 hx
  exact ⟨rfl,rfl,fun r hr => by cases hr⟩
theorem rpE_flat (l:List (Nat × Nat)):flatC (rpE l) = (l.map rcell).flatten:=by
  unfold flatC rpE; rw [List.flatMap_map]; exact List.flatMap_id'
theorem rpE_get {l:List (Nat × Nat)} {i:Nat} {x:Nat × Nat} (h:l[i]? = some x):(rpE l)[i]? = some ⟨rcell x,[]⟩:=by simp [rpE,h]
theorem rcell_len (l:List (Nat × Nat)):((l.map rcell).flatten).length = l.length * 2:=by
  rw [← rpE_flat,(rpE_els l).len]; simp [rpE]
theorem RS.news {w:World} {a:Addr} {n:Nat} {L:List (Nat × Nat)} (h:RS w (some a) n L):∀ j u,((L.map rcell).flatten)[j]? = some u → w.cell? (a.add j) = some u:=fun j u hu => by
  have hj:=(List.getElem?_eq_some_iff.1 hu).1
  rw [rcell_len] at hj
  have hi:j / 2 < L.length:=by omega
  obtain ⟨b,off,hp,hc⟩:=h.2.2 (j / 2) L[j / 2] (List.getElem?_eq_getElem hi)
  simp only [Option.some.injEq] at hp
  subst hp
  have h1:=(rpE_els L).cell (rpE_get (List.getElem?_eq_getElem hi)) (j % 2) (by omega)
  rw [rpE_flat,show j / 2 * 2 + j % 2 = j by omega,hu] at h1
  have:=hc (j % 2) u h1.symm
  rw [Addr.add_mid]
  rw [show off + j = off + j / 2 * 2 + j % 2 by omega]
  exact this
theorem rcell_one (L:List (Nat × Nat)):∀ u ∈ (L.map rcell).flatten,u.oneCell' = true:=fun u hu => by
  obtain ⟨x,hx,hu⟩:=List.mem_flatten.1 hu
  obtain ⟨y,_,rfl⟩:=List.mem_map.1 hx
  simp [rcell] at hu
  rcases hu with rfl | rfl <;> rfl
def LRt (L:List (Nat × Nat)):Tell:=fun v r => ∃ p c,v = .slice p L.length c ∧ r = [.lst 45 2 p L.length c (rpE L)]
theorem wcloneR0 {w:World} :
  Calls Tryz.prog 23 #[.slice none 0 0] w (Ret (LRt []) w):=by
 have hS:=Sep.init w
 refine went Tryz.func23 rfl (n:=8) rfl rfl ?_
 refine wsr (wavc ?_)
 refine wn1 (wSq (wsr (wmv rfl rfl ?_)))
 refine wbc (z:=.bool true) rfl rfl (bin_eqlS Tryz.underlying22 rfl) ?_
 refine wn1 ?_
 refine wT (ev rfl rfl) ?_
 refine wsr (wavc ?_)
 refine wn1 ?_
 refine wLv ?_
 refine thenR ?_
 refine wr1 Tryz.results23 (tlT (v:=.slice none 0 0) rfl rfl) ?_
 exact ⟨_,_,rfl,⟨none,0,rfl,rfl⟩,(hS.nilLst 45 2).newR 0 rfl rfl⟩
theorem wcloneR1 {a:Addr} {n c:Nat} {L:List (Nat × Nat)} {w:World} (h:RS w (some a) n L) (hn:n ≤ 4294967296) :
  Calls Tryz.prog 23 #[.slice (some a) n c] w (Ret (LRt L) w):=by
 have hS:=Sep.init w
 refine went Tryz.func23 rfl (n:=8) rfl rfl ?_
 refine wsr (wavc ?_)
 refine wn1 (wSq (wsr (wmv rfl rfl ?_)))
 refine wbc (z:=.bool false) rfl rfl (bin_eqlS Tryz.underlying22 rfl) ?_
 refine wn1 ?_
 refine wF (ev rfl rfl) ?_
 refine wSk (tNo (wsr (wl rfl (obslice0 hS rfl rfl Tryz.runUnderlying22 Tryz.sizeOf45 ?_))))
 clear hS; intro g1 w2 hS
 refine wmv rfl rfl ?_
 refine wl rfl (oappend0 (g:=g1) (m:=n) (c2:=c) ((L.map rcell).flatten) hS rfl rfl Tryz.underlying22 infoRest rfl (by decide) (ev rfl rfl) (ev rfl rfl) (by rw [rcell_len,h.1]) ((h.at hS).news) (rcell_one L) (by omega) (by omega) ?_)
 clear hS; intro p4 c5 w3 hS
 replace hS:=hS.ownLst (L:=L.map rcell) (by rw [List.length_map]; exact h.1) (fun x hx => by obtain ⟨y,_,rfl⟩:=List.mem_map.1 hx; exact ⟨rfl,rfl⟩)
 refine wav rfl rfl ?_
 refine wn1 ?_
 refine wLv ?_
 refine wr1 Tryz.results23 (tlT (v:=.slice p4 n c5) rfl rfl) ?_
 exact ⟨_,_,rfl,⟨_,_,by rw [h.1],by rw [h.1]; rfl⟩,hS.newR 0 rfl rfl⟩
theorem wcis {g gm:Nat} {t:TypeId} {v1 v2 v3 v4:Value} {w:World} (h:w.heap[g]? = some (.cells [v1,v2,v3,v4,.map (some gm)].toArray t)) :
  Calls Tryz.prog 47 #[.pointer (some ⟨g,0,none⟩)] w (Ret (Is (.bool true)) w):=by
 have hS:=Sep.init w
 refine went Tryz.func47 rfl (n:=12) rfl rfl ?_
 refine wsr (wavc ?_)
 refine wn2 (wmv rfl rfl ?_)
 refine wbc (z:=.bool true) rfl rfl (bin_neqP Tryz.underlying49 rfl) ?_
 refine wmv rfl rfl ?_
 refine wlOn (e:=5) rfl rfl rfl rfl (omove rfl rfl (ev rfl rfl) ?_)
 refine wlOn (e:=5) rfl rfl rfl rfl (oNC (a:=⟨g,0,none⟩) rfl rfl (ev rfl rfl) ?_)
 refine wlOn (e:=5) rfl rfl rfl rfl (oFA (g:=g) (off:=0) (0 + 4) rfl rfl (ev rfl rfl) Tryz.runUnderlying58 rfl Tryz.sizeOf56 rfl ?_)
 refine wlOn (e:=5) rfl rfl rfl rfl (oLc ⟨Tryz.isAgg56,Tryz.sizeOf56⟩ rfl rfl (ev rfl rfl) (hS.cellAt ((cell_sub (us:=[.map (some gm)]) (box_cells h) 4 rfl) 0 _ rfl)) ?_)
 refine wlOn (e:=5) rfl rfl rfl rfl (obin (z:=.bool true) rfl rfl (ev rfl rfl) evc (bin_neqM Tryz.underlying56 rfl) ?_)
 refine wl rfl (opick rfl rfl (ev rfl rfl) (ev rfl rfl) ?_)
 refine wav rfl rfl ?_
 refine wn1 ?_
 refine wLv ?_
 refine wr1 Tryz.results47 (tlT (v:=.bool true) rfl rfl) ?_
 exact ⟨_,_,rfl,isI,hS.new0⟩
theorem wword {p:Option Addr} {n c x q:Nat} {w:World} (hx:Nr w p n c x 549755813000) (hq:q < 4294967296) (h0:q ≠ 0) :
  Calls Tryz.prog 70 #[.slice p n c,.int .u32 (q:Int)] w (Ret (Is (.int .u32 ((x % q:Nat):Int))) w):=by
 have e:(((x:Nat):Int) % (q:Int)).toNat = x % q:=by rw [← Int.natCast_emod]; rfl
 have hS:=Sep.init w
 refine went Tryz.func70 rfl (n:=15) rfl rfl ?_
 refine wsr (wavc ?_)
 refine wn2 (wmv rfl rfl ?_)
 refine wl rfl (obuild (ps:=#[(1,.slice p n c)]) (v:=.agg #[.bool false,.slice p n c]) rfl rfl (parts1 (ev rfl rfl)) (fun w => by simp [go_sem,Instr.build,Instr.fill]) ?_)
 refine wmv rfl rfl ?_
 refine wcl Tryz.call101 ((show Calls _ _ _ _ (Ret (Is (.tuple #[.int .u32 ((x % q:Nat):Int),.int .i64 0])) _) from by have h9:=wzmod (hx.at hS).zr hq h0; rw [e] at h9; exact h9)) (ar2 (ev rfl rfl) (ev rfl rfl)) hS ?_
 clear hS; rintro _ _ w1 ⟨rfl,rfl⟩ hS
 refine wmv rfl rfl ?_
 refine wl rfl (oEx rfl rfl (ev rfl rfl) rfl ?_)
 refine wl rfl (oEx rfl rfl (ev rfl rfl) rfl ?_)
 refine wav rfl rfl ?_
 refine wav rfl rfl ?_
 refine wn2 (wmv rfl rfl ?_)
 refine wav rfl rfl ?_
 refine wn1 ?_
 refine wLv ?_
 refine wr1 Tryz.results70 (tlT (v:=.int .u32 ((x % q:Nat):Int)) rfl rfl) ?_
 exact ⟨_,_,rfl,isI,hS.new0⟩
structure Gh where
  (p1:Option Addr) (n1 c1:Nat) (p2:Option Addr) (n2 c2:Nat) (p3:Option Addr) (c3:Nat) (p4:Option Addr) (c4:Nat) (gm:Nat)
noncomputable def crtR (g:Nat) (s:Gh) (l:List (Nat × Nat)):List Res :=
 [.blk g [.slice s.p1 s.n1 s.c1,.slice s.p2 s.n2 s.c2,.slice s.p3 l.length s.c3,.slice s.p4 l.length s.c4,.map (some s.gm)] 58,
  .rowm s.p1 s.n1 s.c1 (lim (cv l).1),.rowm s.p2 s.n2 s.c2 (lim (cv l).2),.lst 45 2 s.p3 l.length s.c3 (rpE (rps l)),.lst 38 1 s.p4 l.length s.c4 (dgE (dgs l)),.mp Tryz.prog 38 3 s.gm (mods l)]
def CrtP (l:List (Nat × Nat)):Tell:=fun v r => ∃ g s,v = .pointer (some ⟨g,0,none⟩) ∧ r = [.pack (crtR g s l)]
def CrtE (g:Nat) (l:List (Nat × Nat)) (e:Int):Tell:=fun v r => ∃ s,v = .int .i64 e ∧ r = [.pack (crtR g s l)]
structure Okl (l:List (Nat × Nat)):Prop where
  gd:Gd l
  lt:∀ x ∈ l,x.2 < 4294967296
  len:l.length ≤ 1048576
theorem Okl.nil:Okl []:=⟨Gd.nil,(fun x h => by cases h),by simp⟩
theorem ll_pow {x k n:Nat} (h1:x ≤ 4294967296 ^ n) (h2:n < k):ll x ≤ k:=ll_le (Nat.lt_of_le_of_lt h1 (Nat.pow_lt_pow_right (by omega) h2))
theorem Okl.wM {l:List (Nat × Nat)} (h:Okl l):ll (cv l).2 ≤ 1048577:=ll_pow (cv_bd h.lt) (by have:=h.len; omega)
theorem Okl.wV {l:List (Nat × Nat)} (h:Okl l):ll (cv l).1 ≤ 1048577:=llv_le (Nat.le_of_lt (cv_lt h.gd)) h.wM
theorem Okl.snoc {l:List (Nat × Nat)} {r p:Nat} (h:Okl l) (hp:MR.Pr p) (hp2:p < 4294967296) (hn:p ∉ mods l) (hl:l.length < 1048576):Okl (l ++ [(r,p)]) :=
 ⟨Gd.snoc.2 ⟨h.gd,hp,hn⟩,fun x hx => by
  rcases List.mem_append.1 hx with hx | hx
  ·exact h.lt x hx
  rw [List.mem_singleton.1 hx]; exact hp2,by rw [List.length_append,List.length_singleton]; omega⟩
theorem cv_put {l:List (Nat × Nat)} {r p D a b c:Nat} (hD:Hid (dig (cv l).1 (cv l).2 r p = D)) (h1:Hid ((cv l).2 * D = a)) (h2:Hid ((cv l).1 + a = b)) (h3:Hid ((cv l).2 * p = c)):cv (l ++ [(r,p)]) = (b,c):=by
  rw [cv_snoc, ← h2.out, ← h1.out, ← h3.out, ← hD.out]; rfl
theorem crtR_snoc {g:Nat} {s:Gh} {l:List (Nat × Nat)} {r p D b c:Nat} (hD:Hid (dig (cv l).1 (cv l).2 r p = D)) (hc:cv (l ++ [(r,p)]) = (b,c)):crtR g s (l ++ [(r,p)]) =
  [.blk g [.slice s.p1 s.n1 s.c1,.slice s.p2 s.n2 s.c2,.slice s.p3 (l.length + 1) s.c3,.slice s.p4 (l.length + 1) s.c4,.map (some s.gm)] 58,
  .rowm s.p1 s.n1 s.c1 (lim b),.rowm s.p2 s.n2 s.c2 (lim c),.lst 45 2 s.p3 (l.length + 1) s.c3 (rpE (rps l) ++ [⟨[.int .u32 ((r % p:Nat):Int),.int .u32 ((p:Nat):Int)],[]⟩]),.lst 38 1 s.p4 (l.length + 1) s.c4 (dgE (dgs l) ++ [⟨[.int .u32 ((D:Nat):Int)],[]⟩]),.mp Tryz.prog 38 3 s.gm (mods l ++ [p])]:=by
 unfold crtR
 rw [hc,rps_snoc,dgs_snoc,mods_snoc,hD.out,rpE_app,dgE_app,List.length_append,List.length_singleton]
theorem fill1_1 {u a:Int}:Instr.fill (fun i => some (i * 1,1)) ((Array.range (1 * 1)).map ((Value.int .u32 u).cells[· % (Value.int .u32 u).cells.size]!)) #[(0,.int .u32 a)].toList = some [Value.int .u32 a].toArray:=by
 simp [Instr.fill,Value.cells,Array.range]
 apply Array.ext
 ·simp
 intro i h1 h2
 have h3:i = 0:=by simp at h2; omega
 subst h3; simp
theorem wcnew {w:World} :
  Calls Tryz.prog 39 #[] w (Ret (CrtP []) w):=by
 have hS:=Sep.init w
 refine went Tryz.func39 rfl (n:=5) rfl rfl ?_
 refine wsr (wavc ?_)
 refine wn2 (wl rfl (obslice (ps:=#[(0,.int .u32 1)]) (z:=.int .u32 0) [.int .u32 1] hS rfl rfl Tryz.runUnderlying24 Tryz.sizeOf38 Tryz.zeroValue38 (parts1 (evc (v:=.int .u32 1))) rfl (by decide) fill1_1 ?_))
 clear hS; intro g1 w2 hS
 refine wl rfl (omakeMap (P:=Tryz.prog) (k:=38) (e:=3) hS rfl rfl ?_)
 clear hS; intro g3 w4 hS
 refine wl rfl (obuild (ps:=#[(1,.slice (some ⟨g1,0,none⟩) 1 1),(4,.map (some g3))]) (v:=.agg #[.slice none 0 0,.slice (some ⟨g1,0,none⟩) 1 1,.slice none 0 0,.slice none 0 0,.map (some g3)]) rfl rfl (parts2 (ev rfl rfl) (ev rfl rfl)) (fun w => by simp [go_sem,Instr.build,Instr.fill]) ?_)
 refine wl rfl (obox [.slice none 0 0,.slice (some ⟨g1,0,none⟩) 1 1,.slice none 0 0,.slice none 0 0,.map (some g3)] hS rfl rfl (ev rfl rfl) rfl ?_)
 clear hS; intro g5 w6 hS
 refine wav rfl rfl ?_
 refine wn1 ?_
 refine wLv ?_
 refine wr1 Tryz.results39 (tlT (v:=.pointer (some ⟨g5,0,none⟩)) rfl rfl) ?_
 have hS1:Sep w [.blk g1 [.int .u32 ((1:Nat):Int)] 38,.blk g5 [.slice none 0 0,.slice (some ⟨g1,0,none⟩) 1 1,.slice none 0 0,.slice none 0 0,.map (some g3)] 58,.mp Tryz.prog 38 3 g3 []] w6:=hS.pick [2,0,1] (by decide) rfl
 have hS2:=(hS1.blkRow (by omega) (by omega)).nilRowm
 have hS3:=(hS2.nilLst 45 2).nilLst 38 1
 have hS4:Sep w (crtR g5 ⟨none,0,0,some ⟨g1,0,none⟩,1,1,none,0,none,0,g3⟩ [] ++ []) w6:=hS3.pick [4,2,3,1,0,5] (by decide) rfl
 exact ⟨_,_,rfl,⟨_,_,rfl,rfl⟩,(Sep.pack _ rfl hS4).newR 0 rfl rfl⟩
theorem wcadd40 {w0 w:World} {R:List Res} {g r p:Nat} {s:Gh} {l:List (Nat × Nat)} (ht:Tb w0) (hl:Okl l) (hn:l.length < 1048576) (hr:r < 4294967296) (hp2:p < 4294967296) (hS:Sep w0 (.pack (crtR g s l) :: R) w) (hp:¬ MR.Pr p) :
  Calls Tryz.prog 40 #[.pointer (some ⟨g,0,none⟩),.int .u32 ((r:Nat):Int),.int .u32 ((p:Nat):Int)] w (RetS (CrtE g l 40) w0 R):=by
 obtain ⟨pV,nV,cV,pM,nM,cM,pP,cP,pD,cD,gm⟩:=s
 obtain hS:=(show Sep w0 (.blk g [.slice pV nV cV,.slice pM nM cM,.slice pP l.length cP,.slice pD l.length cD,.map (some gm)] 58 :: .rowm pV nV cV (lim (cv l).1) :: .rowm pM nM cM (lim (cv l).2) :: .lst 45 2 pP l.length cP (rpE (rps l)) :: .lst 38 1 pD l.length cD (dgE (dgs l)) :: .mp Tryz.prog 38 3 gm (mods l) :: R) w from hS.unpack)
 have hwV:=hl.wV
 have hwM:=hl.wM
 refine went Tryz.func40 rfl (n:=115) rfl rfl ?_
 refine wsr (wavc ?_)
 refine wn1 (wSq (wsr (wmv rfl rfl ?_)))
 refine wcl Tryz.call47 (wcis (hS.blkAt 0 rfl)) (ar1 (ev rfl rfl)) hS ?_
 clear hS; rintro _ _ w1 ⟨rfl,rfl⟩ hS
 refine wl rfl (onot rfl rfl (ev rfl rfl) ?_)
 refine wn1 ?_
 refine wF (ev rfl rfl) ?_
 refine wSk (tNo (wSq (wsr (wmv rfl rfl ?_))))
 refine wcl Tryz.call68 (wpis (b:=false) hp2 (ht.at hS) ⟨(fun h => by cases h),(fun h => absurd h hp)⟩) (ar1 (ev rfl rfl)) hS ?_
 clear hS; rintro _ _ w2 ⟨rfl,rfl⟩ hS
 refine wl rfl (onot rfl rfl (ev rfl rfl) ?_)
 refine wn1 ?_
 refine wT (ev rfl rfl) ?_
 refine wsr (wavc ?_)
 refine wn1 ?_
 refine wLv ?_
 refine thenR ?_
 refine wr1 Tryz.results40 (tlT (v:=.int .i64 40) rfl rfl) ?_
 exact ⟨_,_,rfl,⟨⟨pV,nV,cV,pM,nM,cM,pP,cP,pD,cD,gm⟩,rfl,rfl⟩,Sep.pack _ rfl hS⟩
theorem wcadd60 {w0 w:World} {R:List Res} {g r p:Nat} {s:Gh} {l:List (Nat × Nat)} (ht:Tb w0) (hl:Okl l) (hn:l.length < 1048576) (hr:r < 4294967296) (hp2:p < 4294967296) (hS:Sep w0 (.pack (crtR g s l) :: R) w) (hp:MR.Pr p) (hm:p ∈ mods l) :
  Calls Tryz.prog 40 #[.pointer (some ⟨g,0,none⟩),.int .u32 ((r:Nat):Int),.int .u32 ((p:Nat):Int)] w (RetS (CrtE g l 60) w0 R):=by
 obtain ⟨pV,nV,cV,pM,nM,cM,pP,cP,pD,cD,gm⟩:=s
 obtain hS:=(show Sep w0 (.blk g [.slice pV nV cV,.slice pM nM cM,.slice pP l.length cP,.slice pD l.length cD,.map (some gm)] 58 :: .rowm pV nV cV (lim (cv l).1) :: .rowm pM nM cM (lim (cv l).2) :: .lst 45 2 pP l.length cP (rpE (rps l)) :: .lst 38 1 pD l.length cD (dgE (dgs l)) :: .mp Tryz.prog 38 3 gm (mods l) :: R) w from hS.unpack)
 have hwV:=hl.wV
 have hwM:=hl.wM
 refine went Tryz.func40 rfl (n:=115) rfl rfl ?_
 refine wsr (wavc ?_)
 refine wn1 (wSq (wsr (wmv rfl rfl ?_)))
 refine wcl Tryz.call47 (wcis (hS.blkAt 0 rfl)) (ar1 (ev rfl rfl)) hS ?_
 clear hS; rintro _ _ w1 ⟨rfl,rfl⟩ hS
 refine wl rfl (onot rfl rfl (ev rfl rfl) ?_)
 refine wn1 ?_
 refine wF (ev rfl rfl) ?_
 refine wSk (tNo (wSq (wsr (wmv rfl rfl ?_))))
 refine wcl Tryz.call68 (wpis (b:=true) hp2 (ht.at hS) ⟨fun _ => hp,fun _ => rfl⟩) (ar1 (ev rfl rfl)) hS ?_
 clear hS; rintro _ _ w2 ⟨rfl,rfl⟩ hS
 refine wl rfl (onot rfl rfl (ev rfl rfl) ?_)
 refine wn1 ?_
 refine wF (ev rfl rfl) ?_
 refine wSk (tNo (wSq (wsr (wmv rfl rfl ?_))))
 refine wl rfl (oNC (a:=⟨g,0,none⟩) rfl rfl (ev rfl rfl) ?_)
 refine wl rfl (oFA (g:=g) (off:=0) 4 rfl rfl (ev rfl rfl) Tryz.runUnderlying58 rfl Tryz.sizeOf56 rfl ?_)
 refine wl rfl (oL1 ⟨Tryz.isAgg56,Tryz.sizeOf56⟩ hS 0 rfl rfl (ev rfl rfl) rfl rfl ?_)
 refine wmv rfl rfl ?_
 refine wl rfl (olookup (b:=true) (p:=p) hS 5 rfl rfl Tryz.underlying56 Tryz.underlying38 Tryz.underlying3 Tryz.zeroValue3 (ev rfl rfl) (ev rfl rfl) hp2 rfl (decide_eq_true hm) ?_)
 intro c3
 refine wmv rfl rfl ?_
 refine wl rfl (oEx rfl rfl (ev rfl rfl) rfl ?_)
 refine wl rfl (oEx rfl rfl (ev rfl rfl) rfl ?_)
 refine wav rfl rfl ?_
 refine wav rfl rfl ?_
 refine wn2 (wmv rfl rfl ?_)
 refine wn1 ?_
 refine wT (ev rfl rfl) ?_
 refine wsr (wavc ?_)
 refine wn1 ?_
 refine wLv ?_
 refine thenR ?_
 refine wr1 Tryz.results40 (tlT (v:=.int .i64 60) rfl rfl) ?_
 exact ⟨_,_,rfl,⟨⟨pV,nV,cV,pM,nM,cM,pP,cP,pD,cD,gm⟩,rfl,rfl⟩,Sep.pack _ rfl hS⟩
theorem wcquo {a b m p D:Nat} {w:World} (hp:MR.Pr p) (hp2:p < 4294967296) (ha:a < 4294967296) (hb:b = m % p) (ht:Tb w) (hd:¬ p ∣ m) (hD:Hid (a * (b ^ (p - 2) % p) % p = D)) :
  Calls Tryz.prog 71 #[.int .u32 (a:Int),.int .u32 (b:Int),.int .u32 (p:Int)] w (Ret (Is (.tuple #[.int .u32 ((D:Nat):Int),.int .i64 0])) w):=by
 rw [← hD.out]
 subst hb
 exact wpquo hp hp2 ha (Nat.lt_trans (Nat.mod_lt _ (by have:=hp.1; omega)) hp2) ht (fun h => hd ((Nat.dvd_mod_iff (Nat.dvd_refl p)).1 h))
theorem wcadd {w0 w:World} {R:List Res} {g r p:Nat} {s:Gh} {l:List (Nat × Nat)} (ht:Tb w0) (hl:Okl l) (hn:l.length < 1048576) (hr:r < 4294967296) (hp2:p < 4294967296) (hS:Sep w0 (.pack (crtR g s l) :: R) w) (hp:MR.Pr p) (hm:p ∉ mods l) :
  Calls Tryz.prog 40 #[.pointer (some ⟨g,0,none⟩),.int .u32 ((r:Nat):Int),.int .u32 ((p:Nat):Int)] w (RetS (CrtE g (l ++ [(r,p)]) 0) w0 R):=by
 obtain ⟨pV,nV,cV,pM,nM,cM,pP,cP,pD,cD,gm⟩:=s
 obtain hS:=(show Sep w0 (.blk g [.slice pV nV cV,.slice pM nM cM,.slice pP l.length cP,.slice pD l.length cD,.map (some gm)] 58 :: .rowm pV nV cV (lim (cv l).1) :: .rowm pM nM cM (lim (cv l).2) :: .lst 45 2 pP l.length cP (rpE (rps l)) :: .lst 38 1 pD l.length cD (dgE (dgs l)) :: .mp Tryz.prog 38 3 gm (mods l) :: R) w from hS.unpack)
 have hwV:=hl.wV
 have hwM:=hl.wM
 have hp0:0 < p:=by have:=hp.1; omega
 have hrp:=mod_lt32 (a:=r) hp0 hp2
 have hvp:=mod_lt32 (a:=(cv l).1) hp0 hp2
 have hof:=mod_lt32 (a:=(r % p) % p + p - ((cv l).1 % p) % p) hp0 hp2
 have hap:=cv_apart hl.gd hp hm
 obtain ⟨D,hD⟩:∃ D:Nat,Hid (dig (cv l).1 (cv l).2 r p = D):=⟨_,rfl⟩
 have hDp:D < p:=by rw [← hD.out]; exact dig_lt hp0
 refine went Tryz.func40 rfl (n:=115) rfl rfl ?_
 refine wsr (wavc ?_)
 refine wn1 (wSq (wsr (wmv (v:=.pointer (some ⟨g,0,none⟩)) rfl rfl ?_)))
 refine wcl Tryz.call47 (wcis (hS.blkAt 0 rfl)) (ar1 (ev rfl rfl)) hS ?_
 clear hS; rintro _ _ w1 ⟨rfl,rfl⟩ hS
 refine wl rfl (onot (b:=true) rfl rfl (ev rfl rfl) ?_)
 refine wn1 ?_
 refine wF (ev rfl rfl) ?_
 refine wSk (tNo (wSq (wsr (wmv (v:=.int .u32 (p:Int)) rfl rfl ?_))))
 refine wcl Tryz.call68 (wpis (b:=true) hp2 (ht.at hS) ⟨fun _ => hp,fun _ => rfl⟩) (ar1 (ev rfl rfl)) hS ?_
 clear hS; rintro _ _ w2 ⟨rfl,rfl⟩ hS
 refine wl rfl (onot (b:=true) rfl rfl (ev rfl rfl) ?_)
 refine wn1 ?_
 refine wF (ev rfl rfl) ?_
 refine wSk (tNo (wSq (wsr (wmv (v:=.pointer (some ⟨g,0,none⟩)) rfl rfl ?_))))
 refine wl rfl (oNC (a:=⟨g,0,none⟩) rfl rfl (ev rfl rfl) ?_)
 refine wl rfl (oFA (g:=g) (off:=0) 4 rfl rfl (ev rfl rfl) Tryz.runUnderlying58 rfl Tryz.sizeOf56 rfl ?_)
 refine wl rfl (oL1 (v:=.map (some gm)) ⟨Tryz.isAgg56,Tryz.sizeOf56⟩ hS 0 rfl rfl (ev rfl rfl) rfl rfl ?_)
 refine wmv (v:=.int .u32 (p:Int)) rfl rfl ?_
 refine wl rfl (olookup (b:=false) (p:=p) hS 5 rfl rfl Tryz.underlying56 Tryz.underlying38 Tryz.underlying3 Tryz.zeroValue3 (ev (v:=.map (some gm)) rfl rfl) (ev (v:=.int .u32 (p:Int)) rfl rfl) hp2 rfl (decide_eq_false hm) ?_)
 intro c3
 refine wmv (v:=.tuple #[.int .i64 c3,.bool false]) rfl rfl ?_
 refine wl rfl (oEx (vs:=[.int .i64 c3,.bool false]) (v:=.int .i64 c3) rfl rfl (ev rfl rfl) rfl ?_)
 refine wl rfl (oEx (vs:=[.int .i64 c3,.bool false]) (v:=.bool false) rfl rfl (ev rfl rfl) rfl ?_)
 refine wav (v:=.int .i64 c3) rfl rfl ?_
 refine wav (v:=.bool false) rfl rfl ?_
 refine wn2 (wmv (v:=.bool false) rfl rfl ?_)
 refine wn1 ?_
 refine wF (ev rfl rfl) ?_
 refine wSk (tNo (wsr (wmv (v:=.int .u32 (r:Int)) rfl rfl ?_)))
 refine wmv (v:=.int .u32 (p:Int)) rfl rfl ?_
 refine wbt (u:=.int .u32 (r:Int)) (v:=.int .u32 (p:Int)) (z:=.int .u32 ((r % p:Nat):Int)) rfl rfl rfl rfl (bin_rem (by omega) rfl) ?_
 refine wav (v:=.int .u32 ((r % p:Nat):Int)) rfl rfl ?_
 refine wn2 (wmv (v:=.int .u32 ((r % p:Nat):Int)) rfl rfl ?_)
 refine wmv (v:=.pointer (some ⟨g,0,none⟩)) rfl rfl ?_
 refine wl rfl (oNC (a:=⟨g,0,none⟩) rfl rfl (ev rfl rfl) ?_)
 refine wl rfl (oFA (g:=g) (off:=0) 0 rfl rfl (ev rfl rfl) Tryz.runUnderlying58 rfl Tryz.sizeOf24 rfl ?_)
 refine wl rfl (oL1 (v:=.slice pV nV cV) oneN hS 0 rfl rfl (ev rfl rfl) rfl rfl ?_)
 refine wmv (v:=.int .u32 (p:Int)) rfl rfl ?_
 refine wcl Tryz.call70 (wword (((hS.slm 1 rfl).nr hwV).mono (by omega)) (by omega) (by omega)) (ar2 (ev rfl rfl) (ev rfl rfl)) hS ?_
 clear hS; rintro _ _ w4 ⟨rfl,rfl⟩ hS
 refine wmv (v:=.int .u32 (p:Int)) rfl rfl ?_
 refine wcl Tryz.call69 (wpsub hp hp2 hrp hvp (ht.at hS)) (args3 (ev rfl rfl) (ev rfl rfl) (ev rfl rfl)) hS ?_
 clear hS; rintro _ _ w5 ⟨rfl,rfl⟩ hS
 refine wmv (v:=.tuple #[.int .u32 (((((r % p) % p + p - ((cv l).1 % p) % p) % p:Nat):Int)),.int .i64 0]) rfl rfl ?_
 refine wl rfl (oEx (vs:=[.int .u32 (((((r % p) % p + p - ((cv l).1 % p) % p) % p:Nat):Int)),.int .i64 0]) (v:=.int .u32 (((((r % p) % p + p - ((cv l).1 % p) % p) % p:Nat):Int))) rfl rfl (ev rfl rfl) rfl ?_)
 refine wl rfl (oEx (vs:=[.int .u32 (((((r % p) % p + p - ((cv l).1 % p) % p) % p:Nat):Int)),.int .i64 0]) (v:=.int .i64 0) rfl rfl (ev rfl rfl) rfl ?_)
 refine wav (v:=.int .u32 (((((r % p) % p + p - ((cv l).1 % p) % p) % p:Nat):Int))) rfl rfl ?_
 refine wav (v:=.int .i64 0) rfl rfl ?_
 refine wn2 (wmv (v:=.int .u32 (((((r % p) % p + p - ((cv l).1 % p) % p) % p:Nat):Int))) rfl rfl ?_)
 refine wmv (v:=.pointer (some ⟨g,0,none⟩)) rfl rfl ?_
 refine wl rfl (oNC (a:=⟨g,0,none⟩) rfl rfl (ev rfl rfl) ?_)
 refine wl rfl (oFA (g:=g) (off:=0) 1 rfl rfl (ev rfl rfl) Tryz.runUnderlying58 rfl Tryz.sizeOf24 rfl ?_)
 refine wl rfl (oL1 (v:=.slice pM nM cM) oneN hS 0 rfl rfl (ev rfl rfl) rfl rfl ?_)
 refine wmv (v:=.int .u32 (p:Int)) rfl rfl ?_
 refine wcl Tryz.call70 (wword (((hS.slm 2 rfl).nr hwM).mono (by omega)) (by omega) (by omega)) (ar2 (ev rfl rfl) (ev rfl rfl)) hS ?_
 clear hS; rintro _ _ w6 ⟨rfl,rfl⟩ hS
 refine wmv (v:=.int .u32 (p:Int)) rfl rfl ?_
 refine wcl Tryz.call71 (wcquo hp hp2 hof rfl (ht.at hS) hap hD) (args3 (ev rfl rfl) (ev rfl rfl) (ev rfl rfl)) hS ?_
 clear hS; rintro _ _ w7 ⟨rfl,rfl⟩ hS
 refine wmv (v:=.tuple #[.int .u32 (D:Int),.int .i64 0]) rfl rfl ?_
 refine wl rfl (oEx (vs:=[.int .u32 (D:Int),.int .i64 0]) (v:=.int .u32 (D:Int)) rfl rfl (ev rfl rfl) rfl ?_)
 refine wl rfl (oEx (vs:=[.int .u32 (D:Int),.int .i64 0]) (v:=.int .i64 0) rfl rfl (ev rfl rfl) rfl ?_)
 refine wav (v:=.int .u32 (D:Int)) rfl rfl ?_
 refine wav (v:=.int .i64 0) rfl rfl ?_
 refine wn1 (wSq ?_)
 have hkx1:ll D ≤ 2:=Nd.u64 (by omega)
 obtain ⟨x2,hx2⟩:∃ x:Nat,Hid (((cv l).2) * D = x):=⟨_,rfl⟩
 have hkx2:ll x2 ≤ 1048579:=Nd.mul hwM hkx1 hx2 (by omega)
 obtain ⟨x3,hx3⟩:∃ x:Nat,Hid (((cv l).1) + x2 = x):=⟨_,rfl⟩
 have hkx3:ll x3 ≤ 1048580:=Nd.add hwV hkx2 hx3 (by omega)
 refine wSg 16 [56,57,58,59,60,61,62,63,64,65,66,67,68,69,70,71] [[],[],[1],[2,1],[3,1,2],[],[5],[6,5],[7,5,6],[],[9],[10,9],[8,11,5,6,7,9,10],[4,12,1,2,3,5,6,7,8,9,10,11],[0,1,2,3,4,5,6,7,8,9,10,11,12,13],[14,0,1,2,3,4,5,6,7,8,9,10,11,12,13]] [] [] [] (fun i9 => ([iSv (.pointer (some ⟨g,0,none⟩)),iSv (.pointer (some ⟨g,0,none⟩)),iSv (.pointer (some ⟨g,0,none⟩)),iSv (.pointer (some ⟨g,0,none⟩)),iSv (.slice pV nV cV),iSv (.pointer (some ⟨g,0,none⟩)),iSv (.pointer (some ⟨g,0,none⟩)),iSv (.pointer (some ⟨g,1,none⟩)),iSv (.slice pM nM cM),iSv (.int .u32 (D:Int)),iSv (.int .u64 (D:Int)),fun _ => Nt (lim D),fun _ => Nt (lim x2),fun _ => Nw (lim x3),iSv (.pointer (some ⟨g,0,none⟩)),iSv (.pointer (some ⟨g,0,none⟩))]:List (List Value → Tell)).getD i9 (fun _ _ _ => False)) hNi (fun d _ _ _ _ h => (by cases d <;> exact h)) (by kernel_rfl) (by kernel_rfl) (by kernel_rfl) hS ?_ ?_
 ·
  refine stM rfl rfl rfl rfl rfl (fun _=>isI) ?_
  refine stM rfl rfl rfl rfl rfl (fun _=>isI) ?_
  refine stT rfl (fun hT hS=>?_) ?_
  ·obtain ⟨hv1,hr1⟩:=hT 1 57 rfl rfl
   obtain hS:=(hS.flat1 hr1).front1
   exact inNo rfl (oNC (a:=⟨g,0,none⟩) rfl rfl (ev rfl hv1) (nSm rfl isI))
  refine stT rfl (fun hT hS=>?_) ?_
  ·obtain ⟨hv2,hr2⟩:=hT 2 58 rfl rfl
   obtain hS:=(hS.flat1 hr2).front1
   exact inNo rfl (oFA (g:=g) (off:=0) 0 rfl rfl (ev rfl hv2) Tryz.runUnderlying58 rfl Tryz.sizeOf24 rfl (nSm rfl isI))
  refine stT rfl (fun hT hS=>?_) ?_
  ·obtain ⟨hv3,hr3⟩:=hT 3 59 rfl rfl
   obtain hS:=(hS.flat1 hr3).front1
   exact inNo rfl (oL1 (v:=.slice pV nV cV) oneN hS 0 rfl rfl (ev rfl hv3) rfl rfl (nSm rfl isI))
  refine stM rfl rfl rfl rfl rfl (fun _=>isI) ?_
  refine stT rfl (fun hT hS=>?_) ?_
  ·obtain ⟨hv5,hr5⟩:=hT 5 61 rfl rfl
   obtain hS:=(hS.flat1 hr5).front1
   exact inNo rfl (oNC (a:=⟨g,0,none⟩) rfl rfl (ev rfl hv5) (nSm rfl isI))
  refine stT rfl (fun hT hS=>?_) ?_
  ·obtain ⟨hv6,hr6⟩:=hT 6 62 rfl rfl
   obtain hS:=(hS.flat1 hr6).front1
   exact inNo rfl (oFA (g:=g) (off:=0) 1 rfl rfl (ev rfl hv6) Tryz.runUnderlying58 rfl Tryz.sizeOf24 rfl (nSm rfl isI))
  refine stT rfl (fun hT hS=>?_) ?_
  ·obtain ⟨hv7,hr7⟩:=hT 7 63 rfl rfl
   obtain hS:=(hS.flat1 hr7).front1
   exact inNo rfl (oL1 (v:=.slice pM nM cM) oneN hS 0 rfl rfl (ev rfl hv7) rfl rfl (nSm rfl isI))
  refine stM rfl rfl rfl rfl rfl (fun _=>isI) ?_
  refine stT rfl (fun hT hS=>?_) ?_
  ·obtain ⟨hv9,hr9⟩:=hT 9 65 rfl rfl
   obtain hS:=(hS.flat1 hr9).front1
   exact inNo rfl (oCv (u:=.int .u32 (D:Int)) (v:=.int .u64 (D:Int)) rfl rfl (ev rfl hv9) (cvI Tryz.runUnderlying38 Tryz.runUnderlying69 (wU6 (by omega) (by omega))) (nSm rfl isI))
  refine stT rfl (fun hT hS=>?_) ?_
  ·obtain ⟨hv10,hr10⟩:=hT 10 66 rfl rfl
   obtain hS:=(hS.flat1 hr10).front1
   exact .inl ⟨wNo rfl,oCl rfl rfl Tryz.call72 rfl (wnof (x:=D) (by omega)) (ar1 (ev rfl hv10)) cNw⟩
  refine stT rfl (fun hT hS=>?_) ?_
  ·obtain ⟨hv8,hr8⟩:=hT 8 64 rfl rfl
   obtain ⟨p1,n1,c1,hv11,hr11⟩:=(hT 11 67 rfl rfl:(Nt (lim D)) _ _)
   obtain hS:=(hS.flat2 hr8 hr11).front2
   exact .inl ⟨wNo rfl,oCl rfl rfl Tryz.call54 rfl (wnmul (((hS.slm 3 rfl).nr hwM).mono (by omega)) (((hS.sl 0 rfl).nr hkx1).mono (by omega)) hx2) (ar2 (ev rfl hv8) (ev rfl hv11)) cNw⟩
  refine stT rfl (fun hT hS=>?_) ?_
  ·obtain ⟨hv4,hr4⟩:=hT 4 60 rfl rfl
   obtain ⟨p2,n2,c2,hv12,hr12⟩:=(hT 12 68 rfl rfl:(Nt (lim x2)) _ _)
   obtain hS:=(hS.flat2 hr4 hr12).front2
   exact .inl ⟨wNo rfl,oCl rfl rfl Tryz.call56 rfl ((wnadd (((hS.slm 2 rfl).nr hwV).mono (by omega)) (((hS.sl 0 rfl).nr hkx2).mono (by omega)) hx3).mono Nt.m) (ar2 (ev rfl hv4) (ev rfl hv12)) cNw⟩
  refine stT rfl (fun hT hS=>?_) ?_
  ·obtain ⟨hv0,hr0⟩:=hT 0 56 rfl rfl
   obtain hS:=(hS.flat1 hr0).front1
   exact inNo rfl (oNC (a:=⟨g,0,none⟩) rfl rfl (ev rfl hv0) (nSm rfl isI))
  refine stT rfl (fun hT hS=>?_) ?_
  ·obtain ⟨hv14,hr14⟩:=hT 14 70 rfl rfl
   obtain hS:=(hS.flat1 hr14).front1
   exact inNo rfl (oFA (g:=g) (off:=0) 0 rfl rfl (ev rfl hv14) Tryz.runUnderlying58 rfl Tryz.sizeOf24 rfl (nSm rfl isI))
  exact sNi
 intro vs ρ w8 f' hf hT hS
 obtain ⟨hv0,hr0⟩:=hT 0 (by decide)
 obtain ⟨hv1,hr1⟩:=hT 1 (by decide)
 obtain ⟨hv2,hr2⟩:=hT 2 (by decide)
 obtain ⟨hv3,hr3⟩:=hT 3 (by decide)
 obtain ⟨hv4,hr4⟩:=hT 4 (by decide)
 obtain ⟨hv5,hr5⟩:=hT 5 (by decide)
 obtain ⟨hv6,hr6⟩:=hT 6 (by decide)
 obtain ⟨hv7,hr7⟩:=hT 7 (by decide)
 obtain ⟨hv8,hr8⟩:=hT 8 (by decide)
 obtain ⟨hv9,hr9⟩:=hT 9 (by decide)
 obtain ⟨hv10,hr10⟩:=hT 10 (by decide)
 obtain ⟨p1,n1,c1,hv11,hr11⟩:=(hT 11 (by decide):(Nt (lim D)) _ _)
 obtain ⟨p2,n2,c2,hv12,hr12⟩:=(hT 12 (by decide):(Nt (lim x2)) _ _)
 obtain ⟨p3,n3,c3,hv13,hr13⟩:=(hT 13 (by decide):(Nw (lim x3)) _ _)
 obtain ⟨hv14,hr14⟩:=hT 14 (by decide)
 obtain ⟨hv15,hr15⟩:=hT 15 (by decide)
 simp only [pool,if_true,hr0,hr1,hr2,hr3,hr4,hr5,hr6,hr7,hr8,hr9,hr10,hr11,hr12,hr13,hr14,hr15,List.nil_append,List.cons_append,List.append_nil] at hS
 simp only [layf,hv0,hv1,hv2,hv3,hv4,hv5,hv6,hv7,hv8,hv9,hv10,hv11,hv12,hv13,hv14,hv15] at hf
 subst hf; clear hT hv0 hv1 hv2 hv3 hv4 hv5 hv6 hv7 hv8 hv9 hv10 hv11 hv12 hv13 hv14 hv15 hr0 hr1 hr2 hr3 hr4 hr5 hr6 hr7 hr8 hr9 hr10 hr11 hr12 hr13 hr14 hr15
 refine wLt 16 rfl (by kernel_rfl) (oSt [.slice p3 n3 c3] [.slice p3 n3 c3,.slice pM nM cM,.slice pP l.length cP,.slice pD l.length cD,.map (some gm)] Tryz.sizeOf24 hS 3 rfl rfl (ev rfl rfl) (ev (v:=.slice p3 n3 c3) rfl rfl) rfl rfl rfl rfl rfl rfl ?_)
 clear hS; intro w9 hS
 refine ⟨hNi,?_⟩
 refine wdone rfl ?_
 refine tNo (wSq ?_)
 have hkx4:ll p ≤ 2:=Nd.u64 (by omega)
 obtain ⟨x5,hx5⟩:∃ x:Nat,Hid (((cv l).2) * p = x):=⟨_,rfl⟩
 have hkx5:ll x5 ≤ 1048579:=Nd.mul hwM hkx4 hx5 (by omega)
 refine wSg 11 [72,73,74,75,76,77,78,79,80,81,82] [[],[],[1],[2,1],[3,1,2],[],[5],[6,5],[4,7,1,2,3,5,6],[0,1,2,3,4,5,6,7,8],[9,0,1,2,3,4,5,6,7,8]] [] [] [] (fun i9 => ([iSv (.pointer (some ⟨g,0,none⟩)),iSv (.pointer (some ⟨g,0,none⟩)),iSv (.pointer (some ⟨g,0,none⟩)),iSv (.pointer (some ⟨g,1,none⟩)),iSv (.slice pM nM cM),iSv (.int .u32 (p:Int)),iSv (.int .u64 (p:Int)),fun _ => Nt (lim p),fun _ => Nw (lim x5),iSv (.pointer (some ⟨g,0,none⟩)),iSv (.pointer (some ⟨g,1,none⟩))]:List (List Value → Tell)).getD i9 (fun _ _ _ => False)) hNi (fun d _ _ _ _ h => (by cases d <;> exact h)) (by kernel_rfl) (by kernel_rfl) (by kernel_rfl) hS ?_ ?_
 ·
  refine stM rfl rfl rfl rfl rfl (fun _=>isI) ?_
  refine stM rfl rfl rfl rfl rfl (fun _=>isI) ?_
  refine stT rfl (fun hT hS=>?_) ?_
  ·obtain ⟨hv1,hr1⟩:=hT 1 73 rfl rfl
   obtain hS:=(hS.flat1 hr1).front1
   exact inNo rfl (oNC (a:=⟨g,0,none⟩) rfl rfl (ev rfl hv1) (nSm rfl isI))
  refine stT rfl (fun hT hS=>?_) ?_
  ·obtain ⟨hv2,hr2⟩:=hT 2 74 rfl rfl
   obtain hS:=(hS.flat1 hr2).front1
   exact inNo rfl (oFA (g:=g) (off:=0) 1 rfl rfl (ev rfl hv2) Tryz.runUnderlying58 rfl Tryz.sizeOf24 rfl (nSm rfl isI))
  refine stT rfl (fun hT hS=>?_) ?_
  ·obtain ⟨hv3,hr3⟩:=hT 3 75 rfl rfl
   obtain hS:=(hS.flat1 hr3).front1
   exact inNo rfl (oL1 (v:=.slice pM nM cM) oneN hS 3 rfl rfl (ev rfl hv3) rfl rfl (nSm rfl isI))
  refine stM rfl rfl rfl rfl rfl (fun _=>isI) ?_
  refine stT rfl (fun hT hS=>?_) ?_
  ·obtain ⟨hv5,hr5⟩:=hT 5 77 rfl rfl
   obtain hS:=(hS.flat1 hr5).front1
   exact inNo rfl (oCv (u:=.int .u32 (p:Int)) (v:=.int .u64 (p:Int)) rfl rfl (ev rfl hv5) (cvI Tryz.runUnderlying38 Tryz.runUnderlying69 (wU6 (by omega) (by omega))) (nSm rfl isI))
  refine stT rfl (fun hT hS=>?_) ?_
  ·obtain ⟨hv6,hr6⟩:=hT 6 78 rfl rfl
   obtain hS:=(hS.flat1 hr6).front1
   exact .inl ⟨wNo rfl,oCl rfl rfl Tryz.call72 rfl (wnof (x:=p) (by omega)) (ar1 (ev rfl hv6)) cNw⟩
  refine stT rfl (fun hT hS=>?_) ?_
  ·obtain ⟨hv4,hr4⟩:=hT 4 76 rfl rfl
   obtain ⟨p4,n4,c4,hv7,hr7⟩:=(hT 7 79 rfl rfl:(Nt (lim p)) _ _)
   obtain hS:=(hS.flat2 hr4 hr7).front2
   exact .inl ⟨wNo rfl,oCl rfl rfl Tryz.call54 rfl ((wnmul (((hS.slm 6 rfl).nr hwM).mono (by omega)) (((hS.sl 0 rfl).nr hkx4).mono (by omega)) hx5).mono Nt.m) (ar2 (ev rfl hv4) (ev rfl hv7)) cNw⟩
  refine stT rfl (fun hT hS=>?_) ?_
  ·obtain ⟨hv0,hr0⟩:=hT 0 72 rfl rfl
   obtain hS:=(hS.flat1 hr0).front1
   exact inNo rfl (oNC (a:=⟨g,0,none⟩) rfl rfl (ev rfl hv0) (nSm rfl isI))
  refine stT rfl (fun hT hS=>?_) ?_
  ·obtain ⟨hv9,hr9⟩:=hT 9 81 rfl rfl
   obtain hS:=(hS.flat1 hr9).front1
   exact inNo rfl (oFA (g:=g) (off:=0) 1 rfl rfl (ev rfl hv9) Tryz.runUnderlying58 rfl Tryz.sizeOf24 rfl (nSm rfl isI))
  exact sNi
 intro vs ρ w10 f' hf hT hS
 obtain ⟨hv0,hr0⟩:=hT 0 (by decide)
 obtain ⟨hv1,hr1⟩:=hT 1 (by decide)
 obtain ⟨hv2,hr2⟩:=hT 2 (by decide)
 obtain ⟨hv3,hr3⟩:=hT 3 (by decide)
 obtain ⟨hv4,hr4⟩:=hT 4 (by decide)
 obtain ⟨hv5,hr5⟩:=hT 5 (by decide)
 obtain ⟨hv6,hr6⟩:=hT 6 (by decide)
 obtain ⟨p4,n4,c4,hv7,hr7⟩:=(hT 7 (by decide):(Nt (lim p)) _ _)
 obtain ⟨p5,n5,c5,hv8,hr8⟩:=(hT 8 (by decide):(Nw (lim x5)) _ _)
 obtain ⟨hv9,hr9⟩:=hT 9 (by decide)
 obtain ⟨hv10,hr10⟩:=hT 10 (by decide)
 simp only [pool,if_true,hr0,hr1,hr2,hr3,hr4,hr5,hr6,hr7,hr8,hr9,hr10,List.nil_append,List.cons_append,List.append_nil] at hS
 simp only [layf,hv0,hv1,hv2,hv3,hv4,hv5,hv6,hv7,hv8,hv9,hv10] at hf
 subst hf; clear hT hv0 hv1 hv2 hv3 hv4 hv5 hv6 hv7 hv8 hv9 hv10 hr0 hr1 hr2 hr3 hr4 hr5 hr6 hr7 hr8 hr9 hr10
 refine wLt 11 rfl (by kernel_rfl) (oSt [.slice p5 n5 c5] [.slice p3 n3 c3,.slice p5 n5 c5,.slice pP l.length cP,.slice pD l.length cD,.map (some gm)] Tryz.sizeOf24 hS 5 rfl rfl (ev rfl rfl) (ev (v:=.slice p5 n5 c5) rfl rfl) rfl rfl rfl rfl rfl rfl ?_)
 clear hS; intro w11 hS
 refine ⟨hNi,?_⟩
 refine wdone rfl ?_
 refine tNo (wSq ?_)
 refine wSg 10 [83,84,85,86,87,88,89,90,91,92] [[],[0],[1,0],[2,0,1],[],[],[5],[6,5],[7,5,6],[8,5,6,7]] [] [] [] (fun i9 => ([iSv (.pointer (some ⟨g,0,none⟩)),iSv (.pointer (some ⟨g,0,none⟩)),iSv (.pointer (some ⟨g,4,none⟩)),iSv (.map (some gm)),iSv (.int .u32 (p:Int)),iSv (.pointer (some ⟨g,0,none⟩)),iSv (.pointer (some ⟨g,0,none⟩)),iSv (.pointer (some ⟨g,2,none⟩)),iSv (.slice pP l.length cP),iSv (.int .i64 (l.length:Int))]:List (List Value → Tell)).getD i9 (fun _ _ _ => False)) hNi (fun d _ _ _ _ h => (by cases d <;> exact h)) (by kernel_rfl) (by kernel_rfl) (by kernel_rfl) hS ?_ ?_
 ·
  refine stM rfl rfl rfl rfl rfl (fun _=>isI) ?_
  refine stT rfl (fun hT hS=>?_) ?_
  ·obtain ⟨hv0,hr0⟩:=hT 0 83 rfl rfl
   obtain hS:=(hS.flat1 hr0).front1
   exact inNo rfl (oNC (a:=⟨g,0,none⟩) rfl rfl (ev rfl hv0) (nSm rfl isI))
  refine stT rfl (fun hT hS=>?_) ?_
  ·obtain ⟨hv1,hr1⟩:=hT 1 84 rfl rfl
   obtain hS:=(hS.flat1 hr1).front1
   exact inNo rfl (oFA (g:=g) (off:=0) 4 rfl rfl (ev rfl hv1) Tryz.runUnderlying58 rfl Tryz.sizeOf56 rfl (nSm rfl isI))
  refine stT rfl (fun hT hS=>?_) ?_
  ·obtain ⟨hv2,hr2⟩:=hT 2 85 rfl rfl
   obtain hS:=(hS.flat1 hr2).front1
   exact inNo rfl (oL1 (v:=.map (some gm)) ⟨Tryz.isAgg56,Tryz.sizeOf56⟩ hS 5 rfl rfl (ev rfl hv2) rfl rfl (nSm rfl isI))
  refine stM rfl rfl rfl rfl rfl (fun _=>isI) ?_
  refine stM rfl rfl rfl rfl rfl (fun _=>isI) ?_
  refine stT rfl (fun hT hS=>?_) ?_
  ·obtain ⟨hv5,hr5⟩:=hT 5 88 rfl rfl
   obtain hS:=(hS.flat1 hr5).front1
   exact inNo rfl (oNC (a:=⟨g,0,none⟩) rfl rfl (ev rfl hv5) (nSm rfl isI))
  refine stT rfl (fun hT hS=>?_) ?_
  ·obtain ⟨hv6,hr6⟩:=hT 6 89 rfl rfl
   obtain hS:=(hS.flat1 hr6).front1
   exact inNo rfl (oFA (g:=g) (off:=0) 2 rfl rfl (ev rfl hv6) Tryz.runUnderlying58 rfl Tryz.sizeOf22 rfl (nSm rfl isI))
  refine stT rfl (fun hT hS=>?_) ?_
  ·obtain ⟨hv7,hr7⟩:=hT 7 90 rfl rfl
   obtain hS:=(hS.flat1 hr7).front1
   exact inNo rfl (oL1 (v:=.slice pP l.length cP) ⟨Tryz.isAgg22,Tryz.sizeOf22⟩ hS 5 rfl rfl (ev rfl hv7) rfl rfl (nSm rfl isI))
  refine stT rfl (fun hT hS=>?_) ?_
  ·obtain ⟨hv8,hr8⟩:=hT 8 91 rfl rfl
   obtain hS:=(hS.flat1 hr8).front1
   exact inNo rfl (olen rfl rfl rfl Tryz.runUnderlying22 (p:=pP) (k:=l.length) (m:=cP) (ev rfl hv8) (nSm rfl isI))
  exact sNi
 intro vs ρ w12 f' hf hT hS
 obtain ⟨hv0,hr0⟩:=hT 0 (by decide)
 obtain ⟨hv1,hr1⟩:=hT 1 (by decide)
 obtain ⟨hv2,hr2⟩:=hT 2 (by decide)
 obtain ⟨hv3,hr3⟩:=hT 3 (by decide)
 obtain ⟨hv4,hr4⟩:=hT 4 (by decide)
 obtain ⟨hv5,hr5⟩:=hT 5 (by decide)
 obtain ⟨hv6,hr6⟩:=hT 6 (by decide)
 obtain ⟨hv7,hr7⟩:=hT 7 (by decide)
 obtain ⟨hv8,hr8⟩:=hT 8 (by decide)
 obtain ⟨hv9,hr9⟩:=hT 9 (by decide)
 simp only [pool,if_true,hr0,hr1,hr2,hr3,hr4,hr5,hr6,hr7,hr8,hr9,List.nil_append,List.cons_append,List.append_nil] at hS
 simp only [layf,hv0,hv1,hv2,hv3,hv4,hv5,hv6,hv7,hv8,hv9] at hf
 subst hf; clear hT hv0 hv1 hv2 hv3 hv4 hv5 hv6 hv7 hv8 hv9 hr0 hr1 hr2 hr3 hr4 hr5 hr6 hr7 hr8 hr9
 refine wLt 10 rfl (by kernel_rfl) (omapUpdate (p:=p) (c:=l.length) hS 10 rfl rfl Tryz.underlying56 Tryz.underlying38 Tryz.underlying3 (ev (v:=.map (some gm)) rfl rfl) (ev (v:=.int .u32 (p:Int)) rfl rfl) (ev (v:=.int .i64 (l.length:Int)) rfl rfl) hp2 (by omega) (by show (mods l).length < maxLen; rw [show (mods l).length = l.length by simp [mods]]; simp only [maxLen]; omega) rfl ?_)
 clear hS; intro w13 hS
 refine ⟨hNi,?_⟩
 refine wdone rfl ?_
 refine tNo (wsr (wmv (v:=.pointer (some ⟨g,0,none⟩)) rfl rfl ?_))
 refine wmv (v:=.pointer (some ⟨g,0,none⟩)) rfl rfl ?_
 refine wl rfl (oNC (a:=⟨g,0,none⟩) rfl rfl (ev rfl rfl) ?_)
 refine wl rfl (oFA (g:=g) (off:=0) 2 rfl rfl (ev rfl rfl) Tryz.runUnderlying58 rfl Tryz.sizeOf22 rfl ?_)
 refine wl rfl (oL1 (v:=.slice pP l.length cP) ⟨Tryz.isAgg22,Tryz.sizeOf22⟩ hS 5 rfl rfl (ev rfl rfl) rfl rfl ?_)
 refine wmv (v:=.int .u32 ((r % p:Nat):Int)) rfl rfl ?_
 refine wmv (v:=.int .u32 (p:Int)) rfl rfl ?_
 refine wl rfl (obuild (ps:=#[(0,.int .u32 ((r % p:Nat):Int)),(1,.int .u32 (p:Int))]) (v:=.agg #[.int .u32 ((r % p:Nat):Int),.int .u32 (p:Int)]) rfl rfl (parts2 (ev (v:=.int .u32 ((r % p:Nat):Int)) rfl rfl) (ev (v:=.int .u32 (p:Int)) rfl rfl)) (fun w => by simp [go_sem,Instr.build,Instr.fill]) ?_)
 refine wl rfl (obslice (ps:=#[(0,.agg #[.int .u32 ((r % p:Nat):Int),.int .u32 (p:Int)])]) (z:=.agg #[.int .u32 0,.int .u32 0]) [.int .u32 ((r % p:Nat):Int),.int .u32 (p:Int)] hS rfl rfl Tryz.runUnderlying22 Tryz.sizeOf45 Tryz.zeroValue45 (parts1 (ev (v:=.agg #[.int .u32 ((r % p:Nat):Int),.int .u32 (p:Int)]) rfl rfl)) rfl (by decide) fill2_1 ?_)
 clear hS; intro g14 w15 hS
 obtain hS:=(show Sep w0 (.lst 45 2 pP l.length cP (rpE (rps l)) :: .blk g14 [.int .u32 (((r % p:Nat):Int)),.int .u32 (((p:Nat):Int))] 45 :: .rowm p5 n5 c5 (lim x5) :: .row p4 n4 c4 (lim p) :: .rowm p3 n3 c3 (lim x3) :: .row p2 n2 c2 (lim x2) :: .row p1 n1 c1 (lim D) :: .blk g [.slice p3 n3 c3,.slice p5 n5 c5,.slice pP l.length cP,.slice pD l.length cD,.map (some gm)] 58 :: .rowm pV nV cV (lim (cv l).1) :: .rowm pM nM cM (lim (cv l).2) :: .lst 38 1 pD l.length cD (dgE (dgs l)) :: .mp Tryz.prog 38 3 gm (mods l ++ [p]) :: R) w15 from Sep.pickT [.blk g14 [.int .u32 (((r % p:Nat):Int)),.int .u32 (((p:Nat):Int))] 45,.rowm p5 n5 c5 (lim x5),.row p4 n4 c4 (lim p),.rowm p3 n3 c3 (lim x3),.row p2 n2 c2 (lim x2),.row p1 n1 c1 (lim D),.blk g [.slice p3 n3 c3,.slice p5 n5 c5,.slice pP l.length cP,.slice pD l.length cD,.map (some gm)] 58,.rowm pV nV cV (lim (cv l).1),.rowm pM nM cM (lim (cv l).2),.lst 45 2 pP l.length cP (rpE (rps l)),.lst 38 1 pD l.length cD (dgE (dgs l)),.mp Tryz.prog 38 3 gm (mods l ++ [p])] [.lst 45 2 pP l.length cP (rpE (rps l)),.blk g14 [.int .u32 (((r % p:Nat):Int)),.int .u32 (((p:Nat):Int))] 45,.rowm p5 n5 c5 (lim x5),.row p4 n4 c4 (lim p),.rowm p3 n3 c3 (lim x3),.row p2 n2 c2 (lim x2),.row p1 n1 c1 (lim D),.blk g [.slice p3 n3 c3,.slice p5 n5 c5,.slice pP l.length cP,.slice pD l.length cD,.map (some gm)] 58,.rowm pV nV cV (lim (cv l).1),.rowm pM nM cM (lim (cv l).2),.lst 38 1 pD l.length cD (dgE (dgs l)),.mp Tryz.prog 38 3 gm (mods l ++ [p])] hS [9,0,1,2,3,4,5,6,7,8,10,11] (by decide) rfl)
 refine wl rfl (oappendL (p:=pP) (m:=l.length) (c:=cP) (g2:=g14) (c2:=1) (off:=0) [.int .u32 ((r % p:Nat):Int),.int .u32 (p:Int)] [] hS rfl rfl Tryz.underlying22 infoRest rfl (by decide) (ev (v:=.slice pP l.length cP) rfl rfl) (ev (v:=.slice (some ⟨g14,0,none⟩) 1 1) rfl rfl) (fun j v hj => by rw [Nat.zero_add]; exact (blk_cell (hS.blkAt 1 rfl) j).trans hj) rfl rfl rfl (by omega) (by omega) ?_)
 clear hS; intro p17 c18 w16 hS
 refine wl rfl (oNC (a:=⟨g,0,none⟩) rfl rfl (ev rfl rfl) ?_)
 refine wl rfl (oFA (g:=g) (off:=0) 2 rfl rfl (ev rfl rfl) Tryz.runUnderlying58 rfl Tryz.sizeOf22 rfl ?_)
 refine wl rfl (oSt [.slice p17 ((l.length + 1)) c18] [.slice p3 n3 c3,.slice p5 n5 c5,.slice p17 ((l.length + 1)) c18,.slice pD l.length cD,.map (some gm)] Tryz.sizeOf22 hS 7 rfl rfl (ev rfl rfl) (ev (v:=.slice p17 ((l.length + 1)) c18) rfl rfl) rfl rfl rfl rfl rfl rfl ?_)
 clear hS; intro w19 hS
 refine wn2 (wmv (v:=.pointer (some ⟨g,0,none⟩)) rfl rfl ?_)
 refine wmv (v:=.pointer (some ⟨g,0,none⟩)) rfl rfl ?_
 refine wl rfl (oNC (a:=⟨g,0,none⟩) rfl rfl (ev rfl rfl) ?_)
 refine wl rfl (oFA (g:=g) (off:=0) 3 rfl rfl (ev rfl rfl) Tryz.runUnderlying58 rfl Tryz.sizeOf23 rfl ?_)
 refine wl rfl (oL1 (v:=.slice pD l.length cD) ⟨Tryz.isAgg23,Tryz.sizeOf23⟩ hS 7 rfl rfl (ev rfl rfl) rfl rfl ?_)
 refine wmv (v:=.int .u32 (D:Int)) rfl rfl ?_
 refine wl rfl (obslice (ps:=#[(0,.int .u32 (D:Int))]) (z:=.int .u32 0) [.int .u32 (D:Int)] hS rfl rfl Tryz.runUnderlying23 Tryz.sizeOf38 Tryz.zeroValue38 (parts1 (ev (v:=.int .u32 (D:Int)) rfl rfl)) rfl (by decide) fill1_1 ?_)
 clear hS; intro g20 w21 hS
 obtain hS:=(show Sep w0 (.lst 38 1 pD l.length cD (dgE (dgs l)) :: .blk g20 [.int .u32 (((D:Nat):Int))] 38 :: .lst 45 2 p17 ((l.length + 1)) c18 ((rpE (rps l)) ++ [⟨[.int .u32 (((r % p:Nat):Int)),.int .u32 (((p:Nat):Int))],[]⟩]) :: .blk g14 [.int .u32 (((r % p:Nat):Int)),.int .u32 (((p:Nat):Int))] 45 :: .rowm p5 n5 c5 (lim x5) :: .row p4 n4 c4 (lim p) :: .rowm p3 n3 c3 (lim x3) :: .row p2 n2 c2 (lim x2) :: .row p1 n1 c1 (lim D) :: .blk g [.slice p3 n3 c3,.slice p5 n5 c5,.slice p17 ((l.length + 1)) c18,.slice pD l.length cD,.map (some gm)] 58 :: .rowm pV nV cV (lim (cv l).1) :: .rowm pM nM cM (lim (cv l).2) :: .mp Tryz.prog 38 3 gm (mods l ++ [p]) :: R) w21 from Sep.pickT [.blk g20 [.int .u32 (((D:Nat):Int))] 38,.lst 45 2 p17 ((l.length + 1)) c18 ((rpE (rps l)) ++ [⟨[.int .u32 (((r % p:Nat):Int)),.int .u32 (((p:Nat):Int))],[]⟩]),.blk g14 [.int .u32 (((r % p:Nat):Int)),.int .u32 (((p:Nat):Int))] 45,.rowm p5 n5 c5 (lim x5),.row p4 n4 c4 (lim p),.rowm p3 n3 c3 (lim x3),.row p2 n2 c2 (lim x2),.row p1 n1 c1 (lim D),.blk g [.slice p3 n3 c3,.slice p5 n5 c5,.slice p17 ((l.length + 1)) c18,.slice pD l.length cD,.map (some gm)] 58,.rowm pV nV cV (lim (cv l).1),.rowm pM nM cM (lim (cv l).2),.lst 38 1 pD l.length cD (dgE (dgs l)),.mp Tryz.prog 38 3 gm (mods l ++ [p])] [.lst 38 1 pD l.length cD (dgE (dgs l)),.blk g20 [.int .u32 (((D:Nat):Int))] 38,.lst 45 2 p17 ((l.length + 1)) c18 ((rpE (rps l)) ++ [⟨[.int .u32 (((r % p:Nat):Int)),.int .u32 (((p:Nat):Int))],[]⟩]),.blk g14 [.int .u32 (((r % p:Nat):Int)),.int .u32 (((p:Nat):Int))] 45,.rowm p5 n5 c5 (lim x5),.row p4 n4 c4 (lim p),.rowm p3 n3 c3 (lim x3),.row p2 n2 c2 (lim x2),.row p1 n1 c1 (lim D),.blk g [.slice p3 n3 c3,.slice p5 n5 c5,.slice p17 ((l.length + 1)) c18,.slice pD l.length cD,.map (some gm)] 58,.rowm pV nV cV (lim (cv l).1),.rowm pM nM cM (lim (cv l).2),.mp Tryz.prog 38 3 gm (mods l ++ [p])] hS [11,0,1,2,3,4,5,6,7,8,9,10,12] (by decide) rfl)
 refine wl rfl (oappendL (p:=pD) (m:=l.length) (c:=cD) (g2:=g20) (c2:=1) (off:=0) [.int .u32 (D:Int)] [] hS rfl rfl Tryz.underlying23 infouint32 rfl (by decide) (ev (v:=.slice pD l.length cD) rfl rfl) (ev (v:=.slice (some ⟨g20,0,none⟩) 1 1) rfl rfl) (fun j v hj => by rw [Nat.zero_add]; exact (blk_cell (hS.blkAt 1 rfl) j).trans hj) rfl rfl rfl (by omega) (by omega) ?_)
 clear hS; intro p23 c24 w22 hS
 refine wl rfl (oNC (a:=⟨g,0,none⟩) rfl rfl (ev rfl rfl) ?_)
 refine wl rfl (oFA (g:=g) (off:=0) 3 rfl rfl (ev rfl rfl) Tryz.runUnderlying58 rfl Tryz.sizeOf23 rfl ?_)
 refine wl rfl (oSt [.slice p23 ((l.length + 1)) c24] [.slice p3 n3 c3,.slice p5 n5 c5,.slice p17 ((l.length + 1)) c18,.slice p23 ((l.length + 1)) c24,.map (some gm)] Tryz.sizeOf23 hS 9 rfl rfl (ev rfl rfl) (ev (v:=.slice p23 ((l.length + 1)) c24) rfl rfl) rfl rfl rfl rfl rfl rfl ?_)
 clear hS; intro w25 hS
 refine wn2 (wavc ?_)
 refine wn1 ?_
 refine wLv ?_
 refine wr1 Tryz.results40 (tlT (v:=.int .i64 0) rfl rfl) ?_
 have hc:=cv_put hD hx2 hx3 hx5
 refine ⟨_,_,rfl,⟨⟨p3,n3,c3,p5,n5,c5,p17,c18,p23,c24,gm⟩,rfl,rfl⟩,Sep.pack _ rfl ?_⟩
 rw [crtR_snoc hD hc]
 exact Sep.pickT [.lst 38 1 p23 ((l.length + 1)) c24 ((dgE (dgs l)) ++ [⟨[.int .u32 (D:Int)],[]⟩]),.blk g20 [.int .u32 (D:Int)] 38,.lst 45 2 p17 ((l.length + 1)) c18 ((rpE (rps l)) ++ [⟨[.int .u32 ((r % p:Nat):Int),.int .u32 (p:Int)],[]⟩]),.blk g14 [.int .u32 ((r % p:Nat):Int),.int .u32 (p:Int)] 45,.rowm p5 n5 c5 (lim x5),.row p4 n4 c4 (lim p),.rowm p3 n3 c3 (lim x3),.row p2 n2 c2 (lim x2),.row p1 n1 c1 (lim D),.blk g [.slice p3 n3 c3,.slice p5 n5 c5,.slice p17 ((l.length + 1)) c18,.slice p23 ((l.length + 1)) c24,.map (some gm)] 58,.rowm pV nV cV (lim (cv l).1),.rowm pM nM cM (lim (cv l).2),.mp Tryz.prog 38 3 gm (mods l ++ [p])] [.blk g [.slice p3 n3 c3,.slice p5 n5 c5,.slice p17 ((l.length + 1)) c18,.slice p23 ((l.length + 1)) c24,.map (some gm)] 58,.rowm p3 n3 c3 (lim x3),.rowm p5 n5 c5 (lim x5),.lst 45 2 p17 ((l.length + 1)) c18 ((rpE (rps l)) ++ [⟨[.int .u32 ((r % p:Nat):Int),.int .u32 (p:Int)],[]⟩]),.lst 38 1 p23 ((l.length + 1)) c24 ((dgE (dgs l)) ++ [⟨[.int .u32 (D:Int)],[]⟩]),.mp Tryz.prog 38 3 gm (mods l ++ [p])] hS [9,6,4,2,0,12] (by decide) rfl
end Go.Proofs.YtjnpdpcldmjdjaaGreatDoor
