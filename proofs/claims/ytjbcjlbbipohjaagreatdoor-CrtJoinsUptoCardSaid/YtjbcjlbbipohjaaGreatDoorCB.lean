/-
  Contracts and lemmas, joined in one text.
-/
import Derived.Test.YtjbcjlbbipohjaaGreatDoorCA
import Derived.Test.YtjbcjlbbipohjaaGreatDoorPrime
import Derived.Test.YtjbcjlbbipohjaaGreatDoorPrimeA
import Derived.Test.YtjbcjlbbipohjaaGreatDoorMr
import Derived.Test.YtjbcjlbbipohjaaGreatDoorZBez2
set_option linter.unusedVariables false
set_option linter.unusedSimpArgs false
/-
  slices.Clone of numbers and of pairs.
-/
set_option maxRecDepth 100000
set_option maxHeartbeats 16000000
namespace Go.Proofs.YtjbcjlbbipohjaaGreatDoor
open Go.RowKit
section
variable {P:Program} {o:Oper} {n:Nat} {f:Nat → Value} {w w0:World} {R:List Res} {K:Act → World → Prop} {Q:Exit → Act → World → Prop} {d:Nat}
end
theorem Sl.news {w:World} {a:Addr} {n c:Nat} {xs:List Nat} (h:Sl w (some a) n c xs):∀ j u,(xs.map fun x:Nat => Value.int .u32 (x:Int))[j]? = some u → w.cell? (a.add j) = some u:=fun j u hu => by
  rw [List.getElem?_map,Option.map_eq_some_iff] at hu
  obtain ⟨x,hx,rfl⟩:=hu
  have hj:j < xs.length:=(List.getElem?_eq_some_iff.1 hx).1
  obtain ⟨b,off,hp,hc⟩:=h.cell j (by rw [← h.len]; exact hj)
  simp only [Option.some.injEq] at hp
  subst hp
  rw [Addr.add_mid,hc,nd_get hj]
  rw [List.getElem?_eq_getElem hj] at hx
  simp at hx
  rw [hx]
theorem infouint32:(Tryz.prog.info? 40).map (fun i => (i.zero,i.size,i.bytes)) = some (some (.int .u32 0),1,4):=by kernel_rfl
theorem infoRest:(Tryz.prog.info? 42).map (fun i => (i.zero,i.size,i.bytes)) = some (some (.agg #[.int .u32 0,.int .u32 0]),2,8):=by kernel_rfl
end Go.Proofs.YtjbcjlbbipohjaaGreatDoor
/-
  Chinese remainders,plainly: what pairs say,and why.
-/
namespace Go.Proofs.YtjbcjlbbipohjaaGreatDoor
def dig (v m r p:Nat):Nat:=((r % p) % p + p - (v % p) % p) % p * ((m % p) ^ (p - 2) % p) % p
def cst (s:Nat × Nat) (x:Nat × Nat):Nat × Nat:=(s.1 + s.2 * dig s.1 s.2 x.1 x.2,s.2 * x.2)
def cv (l:List (Nat × Nat)):Nat × Nat:=l.foldl cst (0,1)
def dst (s:(Nat × Nat) × List Nat) (x:Nat × Nat):(Nat × Nat) × List Nat:=(cst s.1 x,s.2 ++ [dig s.1.1 s.1.2 x.1 x.2])
def dgs (l:List (Nat × Nat)):List Nat:=(l.foldl dst ((0,1),[])).2
def rps (l:List (Nat × Nat)):List (Nat × Nat):=l.map fun x => (x.1 % x.2,x.2)
def mods (l:List (Nat × Nat)):List Nat:=l.map Prod.snd
def Gd (l:List (Nat × Nat)):Prop:=(∀ x ∈ l,MR.Pr x.2) ∧ (mods l).Nodup
theorem cv_snoc (l:List (Nat × Nat)) (x:Nat × Nat):cv (l ++ [x]) = cst (cv l) x:=by simp [cv]
theorem dst_fst (l:List (Nat × Nat)):∀ s,(l.foldl dst s).1 = l.foldl cst s.1:=by
  induction l with
  | nil => intro s; rfl
  | cons x l ih => intro s; simp only [List.foldl_cons]; rw [ih]; rfl
theorem dgs_snoc (l:List (Nat × Nat)) (x:Nat × Nat):dgs (l ++ [x]) = dgs l ++ [dig (cv l).1 (cv l).2 x.1 x.2]:=by
  have h:=dst_fst l ((0,1),[])
  simp only [dgs,List.foldl_append,List.foldl_cons,List.foldl_nil,dst,h]
  rfl
theorem rps_snoc (l:List (Nat × Nat)) (x:Nat × Nat):rps (l ++ [x]) = rps l ++ [(x.1 % x.2,x.2)]:=by simp [rps]
theorem mods_snoc (l:List (Nat × Nat)) (x:Nat × Nat):mods (l ++ [x]) = mods l ++ [x.2]:=by simp [mods]
theorem Gd.nil:Gd []:=⟨fun _ h => absurd h (by simp),by simp [mods]⟩
theorem Gd.snoc {l:List (Nat × Nat)} {x:Nat × Nat}:Gd (l ++ [x]) ↔ Gd l ∧ MR.Pr x.2 ∧ x.2 ∉ mods l:=by
 unfold Gd
 rw [mods_snoc,List.nodup_append]
 constructor
 ·rintro ⟨h1,h2,_,h4⟩
  refine ⟨⟨fun y hy => h1 y (List.mem_append_left _ hy),h2⟩,h1 x (by simp),fun hm => h4 _ hm _ (by simp) rfl⟩
 ·rintro ⟨⟨h1,h2⟩,h3,h4⟩
  refine ⟨fun y hy => ?_,h2,by simp,fun a ha b hb e => ?_⟩
  ·rcases List.mem_append.1 hy with h | h
   ·exact h1 y h
   ·rw [List.mem_singleton.1 h]; exact h3
  ·rw [List.mem_singleton.1 hb] at e; exact h4 (e ▸ ha)
theorem snoc_ind {α : Type} {P:List α → Prop} (h0:P []) (h1:∀ l x,P l → P (l ++ [x])) (l:List α):P l:=by
  rw [← List.reverse_reverse l]
  induction l.reverse with
  | nil => exact h0
  | cons x t ih => rw [List.reverse_cons]; exact h1 _ _ ih
theorem cv_apart {l:List (Nat × Nat)}:Gd l → ∀ {p:Nat},MR.Pr p → p ∉ mods l → ¬ p ∣ (cv l).2:=by
 induction l using snoc_ind with
 | h0 => intro _ p hp _ hd; have:=hp.1; have:=Nat.le_of_dvd (by decide) hd; simp [cv] at this; omega
 | h1 l x ih =>
  intro h p hp hn hd
  obtain ⟨g1,g2,g3⟩:=Gd.snoc.1 h
  rw [mods_snoc] at hn
  rw [cv_snoc] at hd
  rcases hp.dvd_mul hd with h' | h'
  ·exact ih g1 hp (fun hm => hn (List.mem_append_left _ hm)) h'
  ·rcases g2.2 _ h' with e | e
   ·have:=hp.1; omega
   ·exact hn (by rw [e]; simp)
theorem dig_lt {v m r p:Nat} (hp:0 < p):dig v m r p < p:=Nat.mod_lt _ hp
theorem cv_lt {l:List (Nat × Nat)}:Gd l → (cv l).1 < (cv l).2:=by
 induction l using snoc_ind with
 | h0 => intro _; decide
 | h1 l x ih =>
  intro h
  obtain ⟨g1,g2,g3⟩:=Gd.snoc.1 h
  have h1:=ih g1
  have hd:=dig_lt (v:=(cv l).1) (m:=(cv l).2) (r:=x.1) (show 0 < x.2 by have:=g2.1; omega)
  rw [cv_snoc]
  show (cv l).1 + (cv l).2 * dig _ _ _ _ < (cv l).2 * x.2
  have h2:=Nat.mul_le_mul_left (cv l).2 (show dig (cv l).1 (cv l).2 x.1 x.2 + 1 ≤ x.2 from hd)
  rw [Nat.mul_add,Nat.mul_one] at h2
  omega
theorem Gd.perm {l l':List (Nat × Nat)} (h:Gd l) (hp:l.Perm l'):Gd l':=⟨fun x hx => h.1 x (hp.mem_iff.2 hx),(hp.map Prod.snd).nodup_iff.1 h.2⟩
theorem cv_bd {l:List (Nat × Nat)}:(∀ x ∈ l,x.2 < 4294967296) → (cv l).2 ≤ 4294967296 ^ l.length:=by
 induction l using snoc_ind with
 | h0 => intro _; decide
 | h1 l x ih =>
  intro h
  rw [cv_snoc,List.length_append]
  show (cv l).2 * x.2 ≤ 4294967296 ^ (l.length + 1)
  rw [Nat.pow_succ]
  exact Nat.mul_le_mul (ih fun y hy => h y (List.mem_append_left _ hy)) (Nat.le_of_lt (h x (by simp)))
open Classical in
noncomputable def eno (seen:List Nat) (p:Nat):Nat:=if MR.Pr p then (if p ∈ seen then 60 else 0) else 40
noncomputable def code:List Nat → List (Nat × Nat) → Nat
  | _,[] => 0
  | seen,x :: t => if eno seen x.2 = 0 then code (seen ++ [x.2]) t else eno seen x.2
def slift (v m:Nat):Int:=if v + v ≤ m then (v:Int) else (v:Int) - (m:Int)
end Go.Proofs.YtjbcjlbbipohjaaGreatDoor
/-
  A fraction from its rest,plainly: Euclid's steps till the rest is within the bound.
-/
namespace Go.Proofs.YtjbcjlbbipohjaaGreatDoor
open Go.RowKit
def rgo (b:Int):Nat → Int → Int → Int → Int → Int × Int
  | 0,_,r1,_,x1 => (r1,x1)
  | k + 1,r0,r1,x0,x1 => if r1 ≤ b then (r1,x1) else rgo b k r1 (r0 % r1) x1 (x0 - r0 / r1 * x1)
theorem rgo_end {b r0 r1 x0 x1:Int} (h:r1 ≤ b):∀ k,rgo b k r0 r1 x0 x1 = (r1,x1)
  | 0 => rfl
  | k + 1 => by rw [rgo,if_pos h]
theorem rgo_fuel {b:Int} (hb:0 ≤ b):∀ (k j:Nat) (r0 r1 x0 x1:Int),0 ≤ r1 → r1.natAbs ≤ k → r1.natAbs ≤ j → rgo b k r0 r1 x0 x1 = rgo b j r0 r1 x0 x1
 | 0,j,r0,r1,x0,x1,h0,h1,h2 => by rw [rgo_end (by omega) j]; rfl
 | k + 1,0,r0,r1,x0,x1,h0,h1,h2 => by rw [rgo_end (by omega) (k + 1)]; rfl
 | k + 1,j + 1,r0,r1,x0,x1,h0,h1,h2 => by
  by_cases h:r1 ≤ b
  ·rw [rgo_end h,rgo_end h]
  ·rw [rgo,rgo,if_neg h,if_neg h]
   have h3:=Int.emod_nonneg r0 (b:=r1) (by omega)
   have h4:=Int.emod_lt_of_pos r0 (b:=r1) (by omega)
   exact rgo_fuel hb k j _ _ _ _ h3 (by omega) (by omega)
theorem rgo_step {b r0 r1 x0 x1 q r m x:Int} {T:Int × Int} (hb:0 ≤ b) (h:¬ r1 ≤ b) (hT:rgo b r1.natAbs r0 r1 x0 x1 = T) (hq:Hid (r0 / r1 = q)) (hr:Hid (r0 % r1 = r)) (hm:Hid (q * x1 = m)) (hx:Hid (x0 - m = x)):rgo b r.natAbs r1 r x1 x = T:=by
  have h3:=Int.emod_nonneg r0 (b:=r1) (by omega)
  have h4:=Int.emod_lt_of_pos r0 (b:=r1) (by omega)
  rw [← hT]
  obtain ⟨k,hk⟩:∃ k,r1.natAbs = k + 1:=⟨r1.natAbs - 1,by omega⟩
  rw [hk,rgo,if_neg h, ← hx.out, ← hm.out, ← hq.out, ← hr.out]
  exact rgo_fuel hb _ _ _ _ _ _ h3 (Nat.le_refl _) (by omega)
def rcs (v m b:Nat):Int × Int:=rgo b v m v 0 1
def sfix (t:Int × Int):Int × Int:=if t.2 < 0 then (-t.1, -t.2) else t
def rcOk (m b:Nat) (t:Int × Int):Bool:=decide (t.2 ≠ 0) && decide (t.2 ≤ b) && decide (Int.gcd t.1 t.2 = 1) && decide (Int.gcd t.2 m = 1)
def rce (v m b:Nat):Nat:=if v < m ∧ b * b + b * b < m then (if rcOk m b (sfix (rcs v m b)) then 0 else 61) else 1
def rcx (v m b:Nat):Int:=if rce v m b = 0 then (sfix (rcs v m b)).1 else 0
def rcy (v m b:Nat):Int:=if rce v m b = 0 then (sfix (rcs v m b)).2 else 0
end Go.Proofs.YtjbcjlbbipohjaaGreatDoor
/-
  crt's own record: its parts,and the functions that make and turn it.
-/
namespace Go.Proofs.YtjbcjlbbipohjaaGreatDoor
open Go.RowKit
def RS (w:World) (p:Option Addr) (n:Nat) (L:List (Nat × Nat)):Prop:=L.length = n ∧ (p = none → n = 0) ∧ ∀ (i:Nat) (x:Nat × Nat),L[i]? = some x → ∃ b off,p = some ⟨b,off,none⟩ ∧ ∀ (j:Nat) (v:Value),[Value.int .u32 (x.1:Int),.int .u32 (x.2:Int)][j]? = some v → w.cell? ⟨b,off + i * 2 + j,none⟩ = some v
theorem RS.on {w w':World} {p:Option Addr} {n B:Nat} {L:List (Nat × Nat)} (h:RS w p n L) (hb:Below B w w') (hB:w.heap.size ≤ B):RS w' p n L:=by
  refine ⟨h.1,h.2.1,fun i x hx => ?_⟩
  obtain ⟨b,off,hp,hc⟩:=h.2.2 i x hx
  refine ⟨b,off,hp,fun j v hj => ?_⟩
  have h1:=hc j v hj
  have hlt:=World.block_lt_of_cell? w _ h1
  exact (hb.cell (p:=⟨b,off + i * 2 + j,none⟩) (Nat.lt_of_lt_of_le hlt hB)).trans h1
theorem RS.at {w w':World} {R:List Res} {p:Option Addr} {n:Nat} {L:List (Nat × Nat)} (h:RS w p n L) (hS:Sep w R w'):RS w' p n L:=h.on hS.below (Nat.le_refl _)
def rcell (x:Nat × Nat):List Value:=[.int .u32 (x.1:Int),.int .u32 (x.2:Int)]
def rpE (l:List (Nat × Nat)):List El:=(l.map rcell).map fun x => ⟨x,[]⟩
def dgE (l:List Nat):List El:=(l.map fun d:Nat => [Value.int .u32 (d:Int)]).map fun x => ⟨x,[]⟩
theorem rpE_app (l:List (Nat × Nat)) (x:Nat × Nat):rpE (l ++ [x]) = rpE l ++ [⟨[.int .u32 (x.1:Int),.int .u32 (x.2:Int)],[]⟩]:=by simp [rpE,rcell]
theorem dgE_app (l:List Nat) (d:Nat):dgE (l ++ [d]) = dgE l ++ [⟨[.int .u32 (d:Int)],[]⟩]:=by simp [dgE]
theorem rpE_els (l:List (Nat × Nat)):Els 2 (rpE l):=fun el hel => by
  obtain ⟨x,hx,rfl⟩:=List.mem_map.1 hel
  obtain ⟨y,_,rfl⟩:=List.mem_map.1 hx
  exact ⟨rfl,rfl,fun r hr => by cases hr⟩
theorem rpE_flat (l:List (Nat × Nat)):flatC (rpE l) = (l.map rcell).flatten:=by
  unfold flatC rpE; rw [List.flatMap_map]; exact List.flatMap_id'
theorem rpE_get {l:List (Nat × Nat)} {i:Nat} {x:Nat × Nat} (h:l[i]? = some x):(rpE l)[i]? = some ⟨rcell x,[]⟩:=by simp [rpE,h]
theorem rcell_len (l:List (Nat × Nat)):((l.map rcell).flatten).length = l.length * 2:=by
  rw [← rpE_flat,(rpE_els l).len]; simp [rpE]
theorem RS.news {w:World} {a:Addr} {n:Nat} {L:List (Nat × Nat)} (h:RS w (some a) n L):∀ j u,((L.map rcell).flatten)[j]? = some u → w.cell? (a.add j) = some u:=fun j u hu => by
  have hj:=(List.getElem?_eq_some_iff.1 hu).1
  rw [rcell_len] at hj
  have hi:j / 2 < L.length:=by omega
  obtain ⟨b,off,hp,hc⟩:=h.2.2 (j / 2) L[j / 2] (List.getElem?_eq_getElem hi)
  simp only [Option.some.injEq] at hp
  subst hp
  have h1:=(rpE_els L).cell (rpE_get (List.getElem?_eq_getElem hi)) (j % 2) (by omega)
  rw [rpE_flat,show j / 2 * 2 + j % 2 = j by omega,hu] at h1
  have:=hc (j % 2) u h1.symm
  rw [Addr.add_mid]
  rw [show off + j = off + j / 2 * 2 + j % 2 by omega]
  exact this
def LRt (L:List (Nat × Nat)):Tell:=fun v r => ∃ p c,v = .slice p L.length c ∧ r = [.lst 42 2 p L.length c (rpE L)]
theorem wcis {g gm:Nat} {t:TypeId} {v1 v2 v3 v4:Value} {w:World} (h:w.heap[g]? = some (.cells [v1,v2,v3,v4,.map (some gm)].toArray t)) :
  Calls Tryz.prog 89 #[.pointer (some ⟨g,0,none⟩)] w (Ret (Is (.bool true)) w):=by
 have hS:=Sep.init w
 refine went Tryz.func89 rfl (n:=12) rfl rfl ?_
 refine wseq (wreg (wl rfl (oassign (v:=.bool false) rfl rfl evc ?_)))
 refine wnil (thenN (wseq (wreg (wl rfl (omove (v:=.pointer (some ⟨g,0,none⟩)) rfl rfl (ev rfl rfl) ?_)))))
 refine wl rfl (obin (u:=.pointer (some ⟨g,0,none⟩)) (v:=.pointer none) (z:=.bool true) rfl rfl (ev rfl rfl) evc (bin_neqP Tryz.underlying64 rfl) ?_)
 refine wl rfl (omove (v:=.bool true) rfl rfl (ev rfl rfl) ?_)
 refine wlOn (e:=5) rfl rfl rfl rfl (omove (v:=.pointer (some ⟨g,0,none⟩)) rfl rfl (ev rfl rfl) ?_)
 refine wlOn (e:=5) rfl rfl rfl rfl (onilCheck (a:=⟨g,0,none⟩) rfl rfl (ev rfl rfl) ?_)
 refine wlOn (e:=5) rfl rfl rfl rfl (ofieldAddr (g:=g) (off:=0) (0 + 4) rfl rfl (ev rfl rfl) Tryz.runUnderlying93 rfl Tryz.sizeOf91 rfl ?_)
 refine wlOn (e:=5) rfl rfl rfl rfl (oloadc (v:=.map (some gm)) (show One Tryz.prog 91 from ⟨Tryz.isAgg91,Tryz.sizeOf91⟩) rfl rfl (ev (v:=.pointer (some ⟨g,(0 + 4),none⟩)) rfl rfl) (hS.cellAt ((cell_sub (us:=[.map (some gm)]) (box_cells h) 4 rfl) 0 _ rfl)) ?_)
 refine wlOn (e:=5) rfl rfl rfl rfl (obin (u:=.map (some gm)) (v:=.map none) (z:=.bool true) rfl rfl (ev rfl rfl) evc (bin_neqM Tryz.underlying91 rfl) ?_)
 refine wl rfl (opick (b:=true) (v:=.bool true) rfl rfl (ev rfl rfl) (ev rfl rfl) ?_)
 refine wl rfl (oassign (v:=.bool true) rfl rfl (ev rfl rfl) ?_)
 refine wnil (thenN ?_)
 refine wleave ?_
 refine wret1 Tryz.results89 (tellT (v:=.bool true) rfl rfl) ?_
 exact ⟨_,_,rfl,isI,hS.new0⟩
theorem wword {p:Option Addr} {n c x q:Nat} {w:World} (hx:Nr w p n c x 549755813000) (hq:q < 4294967296) (h0:q ≠ 0) :
  Calls Tryz.prog 92 #[.slice p n c,.int .u32 (q:Int)] w (Ret (Is (.int .u32 ((x % q:Nat):Int))) w):=by
 have e:(((x:Nat):Int) % (q:Int)).toNat = x % q:=by rw [← Int.natCast_emod]; rfl
 have hS:=Sep.init w
 refine went Tryz.func92 rfl (n:=15) rfl rfl ?_
 refine wseq (wreg (wl rfl (oassign (v:=.int .u32 0) rfl rfl evc ?_)))
 refine wnil (thenN (wseq (wreg (wl rfl (omove (v:=.slice p n c) rfl rfl (ev rfl rfl) ?_)))))
 refine wl rfl (obuild (ps:=#[(1,.slice p n c)]) (v:=.agg #[.bool false,.slice p n c]) rfl rfl (parts1 (ev (v:=.slice p n c) rfl rfl)) (fun w => by simp [go_sem,Instr.build,Instr.fill]) ?_)
 refine wl rfl (omove (v:=.int .u32 (q:Int)) rfl rfl (ev rfl rfl) ?_)
 refine wl rfl (ocall rfl rfl Tryz.call128 rfl ((show Calls _ _ _ _ (Ret (Is (.tuple #[.int .u32 ((x % q:Nat):Int),.int .i64 0])) _) from by have h9:=wzmod (hx.at hS).zr hq h0; rw [e] at h9; exact h9)) (args2 (ev rfl rfl) (ev rfl rfl)) ?_)
 rintro _ w1 ⟨_,_,rfl,⟨rfl,rfl⟩,hN⟩
 refine ⟨_,rfl,?_⟩
 replace hS:=hS.news hN; clear hN
 refine wl rfl (omove (v:=.tuple #[.int .u32 (((x % q:Nat):Int)),.int .i64 0]) rfl rfl (ev rfl rfl) ?_)
 refine wl rfl (oextract (vs:=[.int .u32 (((x % q:Nat):Int)),.int .i64 0]) (v:=.int .u32 (((x % q:Nat):Int))) rfl rfl (ev rfl rfl) rfl ?_)
 refine wl rfl (oextract (vs:=[.int .u32 (((x % q:Nat):Int)),.int .i64 0]) (v:=.int .i64 0) rfl rfl (ev rfl rfl) rfl ?_)
 refine wl rfl (oassign (v:=.int .u32 (((x % q:Nat):Int))) rfl rfl (ev rfl rfl) ?_)
 refine wl rfl (oassign (v:=.int .i64 0) rfl rfl (ev rfl rfl) ?_)
 refine wnil (thenN (wseq (wreg (wl rfl (omove (v:=.int .u32 (((x % q:Nat):Int))) rfl rfl (ev rfl rfl) ?_)))))
 refine wl rfl (oassign (v:=.int .u32 (((x % q:Nat):Int))) rfl rfl (ev rfl rfl) ?_)
 refine wnil (thenN ?_)
 refine wleave ?_
 refine wret1 Tryz.results92 (tellT (v:=.int .u32 (((x % q:Nat):Int))) rfl rfl) ?_
 exact ⟨_,_,rfl,isI,hS.new0⟩
structure Gh where
  (p1:Option Addr) (n1 c1:Nat) (p2:Option Addr) (n2 c2:Nat) (p3:Option Addr) (c3:Nat) (p4:Option Addr) (c4:Nat) (gm:Nat)
noncomputable def crtR (g:Nat) (s:Gh) (l:List (Nat × Nat)):List Res :=
 [.blk g [.slice s.p1 s.n1 s.c1,.slice s.p2 s.n2 s.c2,.slice s.p3 l.length s.c3,.slice s.p4 l.length s.c4,.map (some s.gm)] 93,
  .rowm s.p1 s.n1 s.c1 (lim (cv l).1),.rowm s.p2 s.n2 s.c2 (lim (cv l).2),.lst 42 2 s.p3 l.length s.c3 (rpE (rps l)),.lst 40 1 s.p4 l.length s.c4 (dgE (dgs l)),.mp Tryz.prog 40 3 s.gm (mods l)]
def CrtP (l:List (Nat × Nat)):Tell:=fun v r => ∃ g s,v = .pointer (some ⟨g,0,none⟩) ∧ r = [.pack (crtR g s l)]
def CrtE (g:Nat) (l:List (Nat × Nat)) (e:Int):Tell:=fun v r => ∃ s,v = .int .i64 e ∧ r = [.pack (crtR g s l)]
structure Okl (l:List (Nat × Nat)):Prop where
  gd:Gd l
  lt:∀ x ∈ l,x.2 < 4294967296
  len:l.length ≤ 1048576
theorem Okl.nil:Okl []:=⟨Gd.nil,(fun x h => by cases h),by simp⟩
theorem ll_pow {x k n:Nat} (h1:x ≤ 4294967296 ^ n) (h2:n < k):ll x ≤ k:=ll_le (Nat.lt_of_le_of_lt h1 (Nat.pow_lt_pow_right (by omega) h2))
theorem Okl.wM {l:List (Nat × Nat)} (h:Okl l):ll (cv l).2 ≤ 1048577:=ll_pow (cv_bd h.lt) (by have:=h.len; omega)
theorem Okl.wV {l:List (Nat × Nat)} (h:Okl l):ll (cv l).1 ≤ 1048577:=llv_le (Nat.le_of_lt (cv_lt h.gd)) h.wM
theorem Okl.snoc {l:List (Nat × Nat)} {r p:Nat} (h:Okl l) (hp:MR.Pr p) (hp2:p < 4294967296) (hn:p ∉ mods l) (hl:l.length < 1048576):Okl (l ++ [(r,p)]) :=
 ⟨Gd.snoc.2 ⟨h.gd,hp,hn⟩,fun x hx => by
  rcases List.mem_append.1 hx with hx | hx
  ·exact h.lt x hx
  ·rw [List.mem_singleton.1 hx]; exact hp2,by rw [List.length_append,List.length_singleton]; omega⟩
theorem cv_put {l:List (Nat × Nat)} {r p D a b c:Nat} (hD:Hid (dig (cv l).1 (cv l).2 r p = D)) (h1:Hid ((cv l).2 * D = a)) (h2:Hid ((cv l).1 + a = b)) (h3:Hid ((cv l).2 * p = c)):cv (l ++ [(r,p)]) = (b,c):=by
  rw [cv_snoc, ← h2.out, ← h1.out, ← h3.out, ← hD.out]; rfl
theorem crtR_snoc {g:Nat} {s:Gh} {l:List (Nat × Nat)} {r p D b c:Nat} (hD:Hid (dig (cv l).1 (cv l).2 r p = D)) (hc:cv (l ++ [(r,p)]) = (b,c)):crtR g s (l ++ [(r,p)]) =
  [.blk g [.slice s.p1 s.n1 s.c1,.slice s.p2 s.n2 s.c2,.slice s.p3 (l.length + 1) s.c3,.slice s.p4 (l.length + 1) s.c4,.map (some s.gm)] 93,
  .rowm s.p1 s.n1 s.c1 (lim b),.rowm s.p2 s.n2 s.c2 (lim c),.lst 42 2 s.p3 (l.length + 1) s.c3 (rpE (rps l) ++ [⟨[.int .u32 ((r % p:Nat):Int),.int .u32 ((p:Nat):Int)],[]⟩]),.lst 40 1 s.p4 (l.length + 1) s.c4 (dgE (dgs l) ++ [⟨[.int .u32 ((D:Nat):Int)],[]⟩]),.mp Tryz.prog 40 3 s.gm (mods l ++ [p])]:=by
 unfold crtR
 rw [hc,rps_snoc,dgs_snoc,mods_snoc,hD.out,rpE_app,dgE_app,List.length_append,List.length_singleton]
theorem fill1_1 {u a:Int}:Instr.fill (fun i => some (i * 1,1)) ((Array.range (1 * 1)).map ((Value.int .u32 u).cells[· % (Value.int .u32 u).cells.size]!)) #[(0,.int .u32 a)].toList = some [Value.int .u32 a].toArray:=by
 simp [Instr.fill,Value.cells,Array.range]
 apply Array.ext
 ·simp
 ·intro i h1 h2
  have h3:i = 0:=by simp at h2; omega
  subst h3; simp
theorem wcnew {w:World} :
  Calls Tryz.prog 37 #[] w (Ret (CrtP []) w):=by
 have hS:=Sep.init w
 refine went Tryz.func37 rfl (n:=5) rfl rfl ?_
 refine wseq (wreg (wl rfl (oassign (v:=.pointer none) rfl rfl evc ?_)))
 refine wnil (thenN (wseq (wreg (wl rfl (obslice (ps:=#[(0,.int .u32 1)]) (z:=.int .u32 0) [.int .u32 1] hS rfl rfl Tryz.runUnderlying26 Tryz.sizeOf40 Tryz.zeroValue40 (parts1 (evc (v:=.int .u32 1))) rfl (by decide) fill1_1 ?_)))))
 clear hS; intro g1 w2 hS
 refine wl rfl (omakeMap (P:=Tryz.prog) (k:=40) (e:=3) hS rfl rfl ?_)
 clear hS; intro g3 w4 hS
 refine wl rfl (obuild (ps:=#[(1,.slice (some ⟨g1,0,none⟩) 1 1),(4,.map (some g3))]) (v:=.agg #[.slice none 0 0,.slice (some ⟨g1,0,none⟩) 1 1,.slice none 0 0,.slice none 0 0,.map (some g3)]) rfl rfl (parts2 (ev (v:=.slice (some ⟨g1,0,none⟩) 1 1) rfl rfl) (ev (v:=.map (some g3)) rfl rfl)) (fun w => by simp [go_sem,Instr.build,Instr.fill]) ?_)
 refine wl rfl (obox [.slice none 0 0,.slice (some ⟨g1,0,none⟩) 1 1,.slice none 0 0,.slice none 0 0,.map (some g3)] hS rfl rfl (ev (v:=.agg #[.slice none 0 0,.slice (some ⟨g1,0,none⟩) 1 1,.slice none 0 0,.slice none 0 0,.map (some g3)]) rfl rfl) rfl ?_)
 clear hS; intro g5 w6 hS
 refine wl rfl (oassign (v:=.pointer (some ⟨g5,0,none⟩)) rfl rfl (ev rfl rfl) ?_)
 refine wnil (thenN ?_)
 refine wleave ?_
 refine wret1 Tryz.results37 (tellT (v:=.pointer (some ⟨g5,0,none⟩)) rfl rfl) ?_
 have hS1:Sep w [.blk g1 [.int .u32 ((1:Nat):Int)] 40,.blk g5 [.slice none 0 0,.slice (some ⟨g1,0,none⟩) 1 1,.slice none 0 0,.slice none 0 0,.map (some g3)] 93,.mp Tryz.prog 40 3 g3 []] w6:=hS.pick [2,0,1] (by decide) rfl
 have hS2:=(hS1.blkRow (by omega) (by omega)).nilRowm
 have hS3:=(hS2.nilLst 42 2).nilLst 40 1
 have hS4:Sep w (crtR g5 ⟨none,0,0,some ⟨g1,0,none⟩,1,1,none,0,none,0,g3⟩ [] ++ []) w6:=hS3.pick [4,2,3,1,0,5] (by decide) rfl
 exact ⟨_,_,rfl,⟨_,_,rfl,rfl⟩,(Sep.pack _ rfl hS4).newR 0 rfl rfl⟩
theorem wcquo {a b m p D:Nat} {w:World} (hp:MR.Pr p) (hp2:p < 4294967296) (ha:a < 4294967296) (hb:b = m % p) (ht:Tb w) (hd:¬ p ∣ m) (hD:Hid (a * (b ^ (p - 2) % p) % p = D)) :
  Calls Tryz.prog 93 #[.int .u32 (a:Int),.int .u32 (b:Int),.int .u32 (p:Int)] w (Ret (Is (.tuple #[.int .u32 ((D:Nat):Int),.int .i64 0])) w):=by
 rw [← hD.out]
 subst hb
 exact wpquo hp hp2 ha (Nat.lt_trans (Nat.mod_lt _ (by have:=hp.1; omega)) hp2) ht (fun h => hd ((Nat.dvd_mod_iff (Nat.dvd_refl p)).1 h))
theorem wcadd {w0 w:World} {R:List Res} {g r p:Nat} {s:Gh} {l:List (Nat × Nat)} (ht:Tb w0) (hl:Okl l) (hn:l.length < 1048576) (hr:r < 4294967296) (hp2:p < 4294967296) (hS:Sep w0 (.pack (crtR g s l) :: R) w) (hp:MR.Pr p) (hm:p ∉ mods l) :
  Calls Tryz.prog 38 #[.pointer (some ⟨g,0,none⟩),.int .u32 ((r:Nat):Int),.int .u32 ((p:Nat):Int)] w (RetS (CrtE g (l ++ [(r,p)]) 0) w0 R):=by
 obtain ⟨pV,nV,cV,pM,nM,cM,pP,cP,pD,cD,gm⟩:=s
 obtain hS:=(show Sep w0 (.blk g [.slice pV nV cV,.slice pM nM cM,.slice pP l.length cP,.slice pD l.length cD,.map (some gm)] 93 :: .rowm pV nV cV (lim (cv l).1) :: .rowm pM nM cM (lim (cv l).2) :: .lst 42 2 pP l.length cP (rpE (rps l)) :: .lst 40 1 pD l.length cD (dgE (dgs l)) :: .mp Tryz.prog 40 3 gm (mods l) :: R) w from hS.unpack)
 have hwV:=hl.wV
 have hwM:=hl.wM
 have hp0:0 < p:=by have:=hp.1; omega
 have hrp:=mod_lt32 (a:=r) hp0 hp2
 have hvp:=mod_lt32 (a:=(cv l).1) hp0 hp2
 have hof:=mod_lt32 (a:=(r % p) % p + p - ((cv l).1 % p) % p) hp0 hp2
 have hap:=cv_apart hl.gd hp hm
 obtain ⟨D,hD⟩:∃ D:Nat,Hid (dig (cv l).1 (cv l).2 r p = D):=⟨_,rfl⟩
 have hDp:D < p:=by rw [← hD.out]; exact dig_lt hp0
 refine went Tryz.func38 rfl (n:=115) rfl rfl ?_
 refine wseq (wreg (wl rfl (oassign (v:=.int .i64 0) rfl rfl evc ?_)))
 refine wnil (thenN (wseq (wseq (wreg (wl rfl (omove (v:=.pointer (some ⟨g,0,none⟩)) rfl rfl (ev rfl rfl) ?_))))))
 refine wl rfl (ocall rfl rfl Tryz.call89 rfl (wcis (hS.blkAt 0 rfl)) (args1 (ev rfl rfl)) ?_)
 rintro _ w1 ⟨_,_,rfl,⟨rfl,rfl⟩,hN⟩
 refine ⟨_,rfl,?_⟩
 replace hS:=hS.news hN; clear hN
 refine wl rfl (onot (b:=true) rfl rfl (ev rfl rfl) ?_)
 refine wnil (thenN ?_)
 refine wF (ev rfl rfl) ?_
 refine wskip (thenN (wseq (wseq (wreg (wl rfl (omove (v:=.int .u32 (p:Int)) rfl rfl (ev rfl rfl) ?_))))))
 refine wl rfl (ocall rfl rfl Tryz.call90 rfl (wpis (b:=true) hp2 (ht.at hS) ⟨fun _ => hp,fun _ => rfl⟩) (args1 (ev rfl rfl)) ?_)
 rintro _ w2 ⟨_,_,rfl,⟨rfl,rfl⟩,hN⟩
 refine ⟨_,rfl,?_⟩
 replace hS:=hS.news hN; clear hN
 refine wl rfl (onot (b:=true) rfl rfl (ev rfl rfl) ?_)
 refine wnil (thenN ?_)
 refine wF (ev rfl rfl) ?_
 refine wskip (thenN (wseq (wseq (wreg (wl rfl (omove (v:=.pointer (some ⟨g,0,none⟩)) rfl rfl (ev rfl rfl) ?_))))))
 refine wl rfl (onilCheck (a:=⟨g,0,none⟩) rfl rfl (ev rfl rfl) ?_)
 refine wl rfl (ofieldAddr (g:=g) (off:=0) 4 rfl rfl (ev rfl rfl) Tryz.runUnderlying93 rfl Tryz.sizeOf91 rfl ?_)
 refine wl rfl (oload1 (v:=.map (some gm)) (show One Tryz.prog 91 from ⟨Tryz.isAgg91,Tryz.sizeOf91⟩) hS 0 rfl rfl (ev rfl rfl) rfl rfl ?_)
 refine wl rfl (omove (v:=.int .u32 (p:Int)) rfl rfl (ev rfl rfl) ?_)
 refine wl rfl (olookup (b:=false) (p:=p) hS 5 rfl rfl Tryz.underlying91 Tryz.underlying40 Tryz.underlying3 Tryz.zeroValue3 (ev (v:=.map (some gm)) rfl rfl) (ev (v:=.int .u32 (p:Int)) rfl rfl) (hp2) rfl (decide_eq_false hm) ?_)
 intro c3
 refine wl rfl (omove (v:=.tuple #[.int .i64 c3,.bool false]) rfl rfl (ev rfl rfl) ?_)
 refine wl rfl (oextract (vs:=[.int .i64 c3,.bool false]) (v:=.int .i64 c3) rfl rfl (ev rfl rfl) rfl ?_)
 refine wl rfl (oextract (vs:=[.int .i64 c3,.bool false]) (v:=.bool false) rfl rfl (ev rfl rfl) rfl ?_)
 refine wl rfl (oassign (v:=.int .i64 c3) rfl rfl (ev rfl rfl) ?_)
 refine wl rfl (oassign (v:=.bool false) rfl rfl (ev rfl rfl) ?_)
 refine wnil (thenN (wseq (wreg (wl rfl (omove (v:=.bool false) rfl rfl (ev rfl rfl) ?_)))))
 refine wnil (thenN ?_)
 refine wF (ev rfl rfl) ?_
 refine wskip (thenN (wseq (wreg (wl rfl (omove (v:=.int .u32 (r:Int)) rfl rfl (ev rfl rfl) ?_)))))
 refine wl rfl (omove (v:=.int .u32 (p:Int)) rfl rfl (ev rfl rfl) ?_)
 refine wl rfl (obin (u:=.int .u32 (r:Int)) (v:=.int .u32 (p:Int)) (z:=.int .u32 (((r % p:Nat):Int))) rfl rfl (ev rfl rfl) (ev rfl rfl) (bin_rem (by omega) rfl) ?_)
 refine wl rfl (oassign (v:=.int .u32 (((r % p:Nat):Int))) rfl rfl (ev rfl rfl) ?_)
 refine wnil (thenN (wseq (wreg (wl rfl (omove (v:=.int .u32 (((r % p:Nat):Int))) rfl rfl (ev rfl rfl) ?_)))))
 refine wl rfl (omove (v:=.pointer (some ⟨g,0,none⟩)) rfl rfl (ev rfl rfl) ?_)
 refine wl rfl (onilCheck (a:=⟨g,0,none⟩) rfl rfl (ev rfl rfl) ?_)
 refine wl rfl (ofieldAddr (g:=g) (off:=0) 0 rfl rfl (ev rfl rfl) Tryz.runUnderlying93 rfl Tryz.sizeOf26 rfl ?_)
 refine wl rfl (oload1 (v:=.slice pV nV cV) oneN hS 0 rfl rfl (ev rfl rfl) rfl rfl ?_)
 refine wl rfl (omove (v:=.int .u32 (p:Int)) rfl rfl (ev rfl rfl) ?_)
 refine wl rfl (ocall rfl rfl Tryz.call92 rfl (wword (((hS.slm 1 rfl).nr hwV).mono (by omega)) (by omega) (by omega)) (args2 (ev rfl rfl) (ev rfl rfl)) ?_)
 rintro _ w4 ⟨_,_,rfl,⟨rfl,rfl⟩,hN⟩
 refine ⟨_,rfl,?_⟩
 replace hS:=hS.news hN; clear hN
 refine wl rfl (omove (v:=.int .u32 (p:Int)) rfl rfl (ev rfl rfl) ?_)
 refine wl rfl (ocall rfl rfl Tryz.call91 rfl (wpsub hp hp2 hrp hvp (ht.at hS)) (args3 (ev rfl rfl) (ev rfl rfl) (ev rfl rfl)) ?_)
 rintro _ w5 ⟨_,_,rfl,⟨rfl,rfl⟩,hN⟩
 refine ⟨_,rfl,?_⟩
 replace hS:=hS.news hN; clear hN
 refine wl rfl (omove (v:=.tuple #[.int .u32 (((((r % p) % p + p - ((cv l).1 % p) % p) % p:Nat):Int)),.int .i64 0]) rfl rfl (ev rfl rfl) ?_)
 refine wl rfl (oextract (vs:=[.int .u32 (((((r % p) % p + p - ((cv l).1 % p) % p) % p:Nat):Int)),.int .i64 0]) (v:=.int .u32 (((((r % p) % p + p - ((cv l).1 % p) % p) % p:Nat):Int))) rfl rfl (ev rfl rfl) rfl ?_)
 refine wl rfl (oextract (vs:=[.int .u32 (((((r % p) % p + p - ((cv l).1 % p) % p) % p:Nat):Int)),.int .i64 0]) (v:=.int .i64 0) rfl rfl (ev rfl rfl) rfl ?_)
 refine wl rfl (oassign (v:=.int .u32 (((((r % p) % p + p - ((cv l).1 % p) % p) % p:Nat):Int))) rfl rfl (ev rfl rfl) ?_)
 refine wl rfl (oassign (v:=.int .i64 0) rfl rfl (ev rfl rfl) ?_)
 refine wnil (thenN (wseq (wreg (wl rfl (omove (v:=.int .u32 (((((r % p) % p + p - ((cv l).1 % p) % p) % p:Nat):Int))) rfl rfl (ev rfl rfl) ?_)))))
 refine wl rfl (omove (v:=.pointer (some ⟨g,0,none⟩)) rfl rfl (ev rfl rfl) ?_)
 refine wl rfl (onilCheck (a:=⟨g,0,none⟩) rfl rfl (ev rfl rfl) ?_)
 refine wl rfl (ofieldAddr (g:=g) (off:=0) 1 rfl rfl (ev rfl rfl) Tryz.runUnderlying93 rfl Tryz.sizeOf26 rfl ?_)
 refine wl rfl (oload1 (v:=.slice pM nM cM) oneN hS 0 rfl rfl (ev rfl rfl) rfl rfl ?_)
 refine wl rfl (omove (v:=.int .u32 (p:Int)) rfl rfl (ev rfl rfl) ?_)
 refine wl rfl (ocall rfl rfl Tryz.call92 rfl (wword (((hS.slm 2 rfl).nr hwM).mono (by omega)) (by omega) (by omega)) (args2 (ev rfl rfl) (ev rfl rfl)) ?_)
 rintro _ w6 ⟨_,_,rfl,⟨rfl,rfl⟩,hN⟩
 refine ⟨_,rfl,?_⟩
 replace hS:=hS.news hN; clear hN
 refine wl rfl (omove (v:=.int .u32 (p:Int)) rfl rfl (ev rfl rfl) ?_)
 refine wl rfl (ocall rfl rfl Tryz.call93 rfl (wcquo hp hp2 hof rfl (ht.at hS) hap hD) (args3 (ev rfl rfl) (ev rfl rfl) (ev rfl rfl)) ?_)
 rintro _ w7 ⟨_,_,rfl,⟨rfl,rfl⟩,hN⟩
 refine ⟨_,rfl,?_⟩
 replace hS:=hS.news hN; clear hN
 refine wl rfl (omove (v:=.tuple #[.int .u32 (D:Int),.int .i64 0]) rfl rfl (ev rfl rfl) ?_)
 refine wl rfl (oextract (vs:=[.int .u32 (D:Int),.int .i64 0]) (v:=.int .u32 (D:Int)) rfl rfl (ev rfl rfl) rfl ?_)
 refine wl rfl (oextract (vs:=[.int .u32 (D:Int),.int .i64 0]) (v:=.int .i64 0) rfl rfl (ev rfl rfl) rfl ?_)
 refine wl rfl (oassign (v:=.int .u32 (D:Int)) rfl rfl (ev rfl rfl) ?_)
 refine wl rfl (oassign (v:=.int .i64 0) rfl rfl (ev rfl rfl) ?_)
 refine wnil (thenN (wseq ?_))
 have hkx1:ll D ≤ 2:=Nd.u64 (by omega)
 obtain ⟨x2,hx2⟩:∃ x:Nat,Hid (((cv l).2) * D = x):=⟨_,rfl⟩
 have hkx2:ll x2 ≤ 1048579:=Nd.mul hwM hkx1 hx2 (by omega)
 obtain ⟨x3,hx3⟩:∃ x:Nat,Hid (((cv l).1) + x2 = x):=⟨_,rfl⟩
 have hkx3:ll x3 ≤ 1048580:=Nd.add hwV hkx2 hx3 (by omega)
 refine wstage 16 [56,57,58,59,60,61,62,63,64,65,66,67,68,69,70,71] [[],[],[1],[2,1],[3,1,2],[],[5],[6,5],[7,5,6],[],[9],[10,9],[8,11,5,6,7,9,10],[4,12,1,2,3,5,6,7,8,9,10,11],[0,1,2,3,4,5,6,7,8,9,10,11,12,13],[14,0,1,2,3,4,5,6,7,8,9,10,11,12,13]] [[],[],[],[],[],[],[],[],[],[],[],[],[],[],[],[]] [] [] (fun i9 => ([fun _ => Is (.pointer (some ⟨g,0,none⟩)),fun _ => Is (.pointer (some ⟨g,0,none⟩)),fun _ => Is (.pointer (some ⟨g,0,none⟩)),fun _ => Is (.pointer (some ⟨g,0,none⟩)),fun _ => Is (.slice pV nV cV),fun _ => Is (.pointer (some ⟨g,0,none⟩)),fun _ => Is (.pointer (some ⟨g,0,none⟩)),fun _ => Is (.pointer (some ⟨g,1,none⟩)),fun _ => Is (.slice pM nM cM),fun _ => Is (.int .u32 (D:Int)),fun _ => Is (.int .u64 (D:Int)),fun _ => Nt (lim D),fun _ => Nt (lim x2),fun _ => Nw (lim x3),fun _ => Is (.pointer (some ⟨g,0,none⟩)),fun _ => Is (.pointer (some ⟨g,0,none⟩))]:List (List Value → Tell)).getD i9 (fun _ _ _ => False)) (heldNil) (fun d _ _ _ _ h => (by cases d <;> exact h)) (by kernel_rfl) (by kernel_rfl) (by kernel_rfl) hS ?_ ?_
 ·
  refine stepsCons rfl (fun Q f' w' ρ S ho hT hS hB => ?_) ?_
  ·exact .inl ⟨want_none rfl,omove (v:=.pointer (some ⟨g,0,none⟩)) rfl rfl (ev rfl (ho 0 rfl)) ⟨_,_,rfl,isI,New.same _⟩⟩
  refine stepsCons rfl (fun Q f' w' ρ S ho hT hS hB => ?_) ?_
  ·exact .inl ⟨want_none rfl,omove (v:=.pointer (some ⟨g,0,none⟩)) rfl rfl (ev rfl (ho 0 rfl)) ⟨_,_,rfl,isI,New.same _⟩⟩
  refine stepsCons rfl (fun Q f' w' ρ S ho hT hS hB => ?_) ?_
  ·obtain ⟨hv1,hr1⟩:=(hT 1 57 rfl rfl:(Is (.pointer (some ⟨g,0,none⟩))) _ _)
   obtain hS:=(hS.flat1 hr1).front1
   exact .inl ⟨want_none rfl,onilCheck (a:=⟨g,0,none⟩) rfl rfl (ev rfl hv1) ⟨_,_,rfl,isI,New.same _⟩⟩
  refine stepsCons rfl (fun Q f' w' ρ S ho hT hS hB => ?_) ?_
  ·obtain ⟨hv2,hr2⟩:=(hT 2 58 rfl rfl:(Is (.pointer (some ⟨g,0,none⟩))) _ _)
   obtain hS:=(hS.flat1 hr2).front1
   exact .inl ⟨want_none rfl,ofieldAddr (g:=g) (off:=0) 0 rfl rfl (ev rfl hv2) Tryz.runUnderlying93 rfl Tryz.sizeOf26 rfl ⟨_,_,rfl,isI,New.same _⟩⟩
  refine stepsCons rfl (fun Q f' w' ρ S ho hT hS hB => ?_) ?_
  ·obtain ⟨hv3,hr3⟩:=(hT 3 59 rfl rfl:(Is (.pointer (some ⟨g,0,none⟩))) _ _)
   obtain hS:=(hS.flat1 hr3).front1
   exact .inl ⟨want_none rfl,oload1 (v:=.slice pV nV cV) oneN hS 0 rfl rfl (ev rfl hv3) rfl rfl ⟨_,_,rfl,isI,New.same _⟩⟩
  refine stepsCons rfl (fun Q f' w' ρ S ho hT hS hB => ?_) ?_
  ·exact .inl ⟨want_none rfl,omove (v:=.pointer (some ⟨g,0,none⟩)) rfl rfl (ev rfl (ho 0 rfl)) ⟨_,_,rfl,isI,New.same _⟩⟩
  refine stepsCons rfl (fun Q f' w' ρ S ho hT hS hB => ?_) ?_
  ·obtain ⟨hv5,hr5⟩:=(hT 5 61 rfl rfl:(Is (.pointer (some ⟨g,0,none⟩))) _ _)
   obtain hS:=(hS.flat1 hr5).front1
   exact .inl ⟨want_none rfl,onilCheck (a:=⟨g,0,none⟩) rfl rfl (ev rfl hv5) ⟨_,_,rfl,isI,New.same _⟩⟩
  refine stepsCons rfl (fun Q f' w' ρ S ho hT hS hB => ?_) ?_
  ·obtain ⟨hv6,hr6⟩:=(hT 6 62 rfl rfl:(Is (.pointer (some ⟨g,0,none⟩))) _ _)
   obtain hS:=(hS.flat1 hr6).front1
   exact .inl ⟨want_none rfl,ofieldAddr (g:=g) (off:=0) 1 rfl rfl (ev rfl hv6) Tryz.runUnderlying93 rfl Tryz.sizeOf26 rfl ⟨_,_,rfl,isI,New.same _⟩⟩
  refine stepsCons rfl (fun Q f' w' ρ S ho hT hS hB => ?_) ?_
  ·obtain ⟨hv7,hr7⟩:=(hT 7 63 rfl rfl:(Is (.pointer (some ⟨g,1,none⟩))) _ _)
   obtain hS:=(hS.flat1 hr7).front1
   exact .inl ⟨want_none rfl,oload1 (v:=.slice pM nM cM) oneN hS 0 rfl rfl (ev rfl hv7) rfl rfl ⟨_,_,rfl,isI,New.same _⟩⟩
  refine stepsCons rfl (fun Q f' w' ρ S ho hT hS hB => ?_) ?_
  ·exact .inl ⟨want_none rfl,omove (v:=.int .u32 (D:Int)) rfl rfl (ev rfl (ho 11 rfl)) ⟨_,_,rfl,isI,New.same _⟩⟩
  refine stepsCons rfl (fun Q f' w' ρ S ho hT hS hB => ?_) ?_
  ·obtain ⟨hv9,hr9⟩:=(hT 9 65 rfl rfl:(Is (.int .u32 (((D:Nat):Int)))) _ _)
   obtain hS:=(hS.flat1 hr9).front1
   exact .inl ⟨want_none rfl,oconvert (u:=.int .u32 (D:Int)) (v:=.int .u64 (D:Int)) rfl rfl (ev rfl hv9) (convert_int Tryz.runUnderlying40 Tryz.runUnderlying52 (wrap_u64 (by omega) (by omega))) ⟨_,_,rfl,isI,New.same _⟩⟩
  refine stepsCons rfl (fun Q f' w' ρ S ho hT hS hB => ?_) ?_
  ·obtain ⟨hv10,hr10⟩:=(hT 10 66 rfl rfl:(Is (.int .u64 (((D:Nat):Int)))) _ _)
   obtain hS:=(hS.flat1 hr10).front1
   exact .inl ⟨want_none rfl,ocall rfl rfl Tryz.call94 rfl (wnof (x:=D) (by omega)) (args1 (ev rfl hv10)) callN⟩
  refine stepsCons rfl (fun Q f' w' ρ S ho hT hS hB => ?_) ?_
  ·obtain ⟨hv8,hr8⟩:=(hT 8 64 rfl rfl:(Is (.slice pM nM cM)) _ _)
   obtain ⟨p1,n1,c1,hv11,hr11⟩:=(hT 11 67 rfl rfl:(Nt (lim D)) _ _)
   obtain hS:=(hS.flat2 hr8 hr11).front2
   exact .inl ⟨want_none rfl,ocall rfl rfl Tryz.call56 rfl (wnmul (((hS.slm 3 rfl).nr hwM).mono (by omega)) (((hS.sl 0 rfl).nr hkx1).mono (by omega)) hx2) (args2 (ev rfl hv8) (ev rfl hv11)) callN⟩
  refine stepsCons rfl (fun Q f' w' ρ S ho hT hS hB => ?_) ?_
  ·obtain ⟨hv4,hr4⟩:=(hT 4 60 rfl rfl:(Is (.slice pV nV cV)) _ _)
   obtain ⟨p2,n2,c2,hv12,hr12⟩:=(hT 12 68 rfl rfl:(Nt (lim x2)) _ _)
   obtain hS:=(hS.flat2 hr4 hr12).front2
   exact .inl ⟨want_none rfl,ocall rfl rfl Tryz.call58 rfl ((wnadd (((hS.slm 2 rfl).nr hwV).mono (by omega)) (((hS.sl 0 rfl).nr hkx2).mono (by omega)) hx3).mono Nt.m) (args2 (ev rfl hv4) (ev rfl hv12)) callN⟩
  refine stepsCons rfl (fun Q f' w' ρ S ho hT hS hB => ?_) ?_
  ·obtain ⟨hv0,hr0⟩:=(hT 0 56 rfl rfl:(Is (.pointer (some ⟨g,0,none⟩))) _ _)
   obtain hS:=(hS.flat1 hr0).front1
   exact .inl ⟨want_none rfl,onilCheck (a:=⟨g,0,none⟩) rfl rfl (ev rfl hv0) ⟨_,_,rfl,isI,New.same _⟩⟩
  refine stepsCons rfl (fun Q f' w' ρ S ho hT hS hB => ?_) ?_
  ·obtain ⟨hv14,hr14⟩:=(hT 14 70 rfl rfl:(Is (.pointer (some ⟨g,0,none⟩))) _ _)
   obtain hS:=(hS.flat1 hr14).front1
   exact .inl ⟨want_none rfl,ofieldAddr (g:=g) (off:=0) 0 rfl rfl (ev rfl hv14) Tryz.runUnderlying93 rfl Tryz.sizeOf26 rfl ⟨_,_,rfl,isI,New.same _⟩⟩
  exact stepsNil
 ·
  intro vs ρ w8 f' hf hT hS
  obtain ⟨hv0,hr0⟩:=(hT 0 (by decide):(Is (.pointer (some ⟨g,0,none⟩))) _ _)
  obtain ⟨hv1,hr1⟩:=(hT 1 (by decide):(Is (.pointer (some ⟨g,0,none⟩))) _ _)
  obtain ⟨hv2,hr2⟩:=(hT 2 (by decide):(Is (.pointer (some ⟨g,0,none⟩))) _ _)
  obtain ⟨hv3,hr3⟩:=(hT 3 (by decide):(Is (.pointer (some ⟨g,0,none⟩))) _ _)
  obtain ⟨hv4,hr4⟩:=(hT 4 (by decide):(Is (.slice pV nV cV)) _ _)
  obtain ⟨hv5,hr5⟩:=(hT 5 (by decide):(Is (.pointer (some ⟨g,0,none⟩))) _ _)
  obtain ⟨hv6,hr6⟩:=(hT 6 (by decide):(Is (.pointer (some ⟨g,0,none⟩))) _ _)
  obtain ⟨hv7,hr7⟩:=(hT 7 (by decide):(Is (.pointer (some ⟨g,1,none⟩))) _ _)
  obtain ⟨hv8,hr8⟩:=(hT 8 (by decide):(Is (.slice pM nM cM)) _ _)
  obtain ⟨hv9,hr9⟩:=(hT 9 (by decide):(Is (.int .u32 (((D:Nat):Int)))) _ _)
  obtain ⟨hv10,hr10⟩:=(hT 10 (by decide):(Is (.int .u64 (((D:Nat):Int)))) _ _)
  obtain ⟨p1,n1,c1,hv11,hr11⟩:=(hT 11 (by decide):(Nt (lim D)) _ _)
  obtain ⟨p2,n2,c2,hv12,hr12⟩:=(hT 12 (by decide):(Nt (lim x2)) _ _)
  obtain ⟨p3,n3,c3,hv13,hr13⟩:=(hT 13 (by decide):(Nw (lim x3)) _ _)
  obtain ⟨hv14,hr14⟩:=(hT 14 (by decide):(Is (.pointer (some ⟨g,0,none⟩))) _ _)
  obtain ⟨hv15,hr15⟩:=(hT 15 (by decide):(Is (.pointer (some ⟨g,0,none⟩))) _ _)
  simp only [pool,if_true,hr0,hr1,hr2,hr3,hr4,hr5,hr6,hr7,hr8,hr9,hr10,hr11,hr12,hr13,hr14,hr15,List.nil_append,List.cons_append,List.append_nil] at hS
  simp only [layf,hv0,hv1,hv2,hv3,hv4,hv5,hv6,hv7,hv8,hv9,hv10,hv11,hv12,hv13,hv14,hv15] at hf
  subst hf; clear hT hv0 hv1 hv2 hv3 hv4 hv5 hv6 hv7 hv8 hv9 hv10 hv11 hv12 hv13 hv14 hv15 hr0 hr1 hr2 hr3 hr4 hr5 hr6 hr7 hr8 hr9 hr10 hr11 hr12 hr13 hr14 hr15
  refine wlate 16 rfl (by kernel_rfl) (ostore [.slice p3 n3 c3] [.slice p3 n3 c3,.slice pM nM cM,.slice pP l.length cP,.slice pD l.length cD,.map (some gm)] Tryz.sizeOf26 hS 3 rfl rfl (ev rfl rfl) (ev (v:=.slice p3 n3 c3) rfl rfl) rfl rfl rfl rfl rfl rfl ?_)
  clear hS; intro w9 hS
  refine ⟨heldNil,?_⟩
  refine wdone rfl ?_
  refine thenN (wseq ?_)
  have hkx4:ll p ≤ 2:=Nd.u64 (by omega)
  obtain ⟨x5,hx5⟩:∃ x:Nat,Hid (((cv l).2) * p = x):=⟨_,rfl⟩
  have hkx5:ll x5 ≤ 1048579:=Nd.mul hwM hkx4 hx5 (by omega)
  refine wstage 11 [72,73,74,75,76,77,78,79,80,81,82] [[],[],[1],[2,1],[3,1,2],[],[5],[6,5],[4,7,1,2,3,5,6],[0,1,2,3,4,5,6,7,8],[9,0,1,2,3,4,5,6,7,8]] [[],[],[],[],[],[],[],[],[],[],[]] [] [] (fun i9 => ([fun _ => Is (.pointer (some ⟨g,0,none⟩)),fun _ => Is (.pointer (some ⟨g,0,none⟩)),fun _ => Is (.pointer (some ⟨g,0,none⟩)),fun _ => Is (.pointer (some ⟨g,1,none⟩)),fun _ => Is (.slice pM nM cM),fun _ => Is (.int .u32 (p:Int)),fun _ => Is (.int .u64 (p:Int)),fun _ => Nt (lim p),fun _ => Nw (lim x5),fun _ => Is (.pointer (some ⟨g,0,none⟩)),fun _ => Is (.pointer (some ⟨g,1,none⟩))]:List (List Value → Tell)).getD i9 (fun _ _ _ => False)) (heldNil) (fun d _ _ _ _ h => (by cases d <;> exact h)) (by kernel_rfl) (by kernel_rfl) (by kernel_rfl) hS ?_ ?_
  ·
   refine stepsCons rfl (fun Q f' w' ρ S ho hT hS hB => ?_) ?_
   ·exact .inl ⟨want_none rfl,omove (v:=.pointer (some ⟨g,0,none⟩)) rfl rfl (ev rfl (ho 0 rfl)) ⟨_,_,rfl,isI,New.same _⟩⟩
   refine stepsCons rfl (fun Q f' w' ρ S ho hT hS hB => ?_) ?_
   ·exact .inl ⟨want_none rfl,omove (v:=.pointer (some ⟨g,0,none⟩)) rfl rfl (ev rfl (ho 0 rfl)) ⟨_,_,rfl,isI,New.same _⟩⟩
   refine stepsCons rfl (fun Q f' w' ρ S ho hT hS hB => ?_) ?_
   ·obtain ⟨hv1,hr1⟩:=(hT 1 73 rfl rfl:(Is (.pointer (some ⟨g,0,none⟩))) _ _)
    obtain hS:=(hS.flat1 hr1).front1
    exact .inl ⟨want_none rfl,onilCheck (a:=⟨g,0,none⟩) rfl rfl (ev rfl hv1) ⟨_,_,rfl,isI,New.same _⟩⟩
   refine stepsCons rfl (fun Q f' w' ρ S ho hT hS hB => ?_) ?_
   ·obtain ⟨hv2,hr2⟩:=(hT 2 74 rfl rfl:(Is (.pointer (some ⟨g,0,none⟩))) _ _)
    obtain hS:=(hS.flat1 hr2).front1
    exact .inl ⟨want_none rfl,ofieldAddr (g:=g) (off:=0) 1 rfl rfl (ev rfl hv2) Tryz.runUnderlying93 rfl Tryz.sizeOf26 rfl ⟨_,_,rfl,isI,New.same _⟩⟩
   refine stepsCons rfl (fun Q f' w' ρ S ho hT hS hB => ?_) ?_
   ·obtain ⟨hv3,hr3⟩:=(hT 3 75 rfl rfl:(Is (.pointer (some ⟨g,1,none⟩))) _ _)
    obtain hS:=(hS.flat1 hr3).front1
    exact .inl ⟨want_none rfl,oload1 (v:=.slice pM nM cM) oneN hS 3 rfl rfl (ev rfl hv3) rfl rfl ⟨_,_,rfl,isI,New.same _⟩⟩
   refine stepsCons rfl (fun Q f' w' ρ S ho hT hS hB => ?_) ?_
   ·exact .inl ⟨want_none rfl,omove (v:=.int .u32 (p:Int)) rfl rfl (ev rfl (ho 2 rfl)) ⟨_,_,rfl,isI,New.same _⟩⟩
   refine stepsCons rfl (fun Q f' w' ρ S ho hT hS hB => ?_) ?_
   ·obtain ⟨hv5,hr5⟩:=(hT 5 77 rfl rfl:(Is (.int .u32 (((p:Nat):Int)))) _ _)
    obtain hS:=(hS.flat1 hr5).front1
    exact .inl ⟨want_none rfl,oconvert (u:=.int .u32 (p:Int)) (v:=.int .u64 (p:Int)) rfl rfl (ev rfl hv5) (convert_int Tryz.runUnderlying40 Tryz.runUnderlying52 (wrap_u64 (by omega) (by omega))) ⟨_,_,rfl,isI,New.same _⟩⟩
   refine stepsCons rfl (fun Q f' w' ρ S ho hT hS hB => ?_) ?_
   ·obtain ⟨hv6,hr6⟩:=(hT 6 78 rfl rfl:(Is (.int .u64 (((p:Nat):Int)))) _ _)
    obtain hS:=(hS.flat1 hr6).front1
    exact .inl ⟨want_none rfl,ocall rfl rfl Tryz.call94 rfl (wnof (x:=p) (by omega)) (args1 (ev rfl hv6)) callN⟩
   refine stepsCons rfl (fun Q f' w' ρ S ho hT hS hB => ?_) ?_
   ·obtain ⟨hv4,hr4⟩:=(hT 4 76 rfl rfl:(Is (.slice pM nM cM)) _ _)
    obtain ⟨p4,n4,c4,hv7,hr7⟩:=(hT 7 79 rfl rfl:(Nt (lim p)) _ _)
    obtain hS:=(hS.flat2 hr4 hr7).front2
    exact .inl ⟨want_none rfl,ocall rfl rfl Tryz.call56 rfl ((wnmul (((hS.slm 6 rfl).nr hwM).mono (by omega)) (((hS.sl 0 rfl).nr hkx4).mono (by omega)) hx5).mono Nt.m) (args2 (ev rfl hv4) (ev rfl hv7)) callN⟩
   refine stepsCons rfl (fun Q f' w' ρ S ho hT hS hB => ?_) ?_
   ·obtain ⟨hv0,hr0⟩:=(hT 0 72 rfl rfl:(Is (.pointer (some ⟨g,0,none⟩))) _ _)
    obtain hS:=(hS.flat1 hr0).front1
    exact .inl ⟨want_none rfl,onilCheck (a:=⟨g,0,none⟩) rfl rfl (ev rfl hv0) ⟨_,_,rfl,isI,New.same _⟩⟩
   refine stepsCons rfl (fun Q f' w' ρ S ho hT hS hB => ?_) ?_
   ·obtain ⟨hv9,hr9⟩:=(hT 9 81 rfl rfl:(Is (.pointer (some ⟨g,0,none⟩))) _ _)
    obtain hS:=(hS.flat1 hr9).front1
    exact .inl ⟨want_none rfl,ofieldAddr (g:=g) (off:=0) 1 rfl rfl (ev rfl hv9) Tryz.runUnderlying93 rfl Tryz.sizeOf26 rfl ⟨_,_,rfl,isI,New.same _⟩⟩
   exact stepsNil
  ·
   intro vs ρ w10 f' hf hT hS
   obtain ⟨hv0,hr0⟩:=(hT 0 (by decide):(Is (.pointer (some ⟨g,0,none⟩))) _ _)
   obtain ⟨hv1,hr1⟩:=(hT 1 (by decide):(Is (.pointer (some ⟨g,0,none⟩))) _ _)
   obtain ⟨hv2,hr2⟩:=(hT 2 (by decide):(Is (.pointer (some ⟨g,0,none⟩))) _ _)
   obtain ⟨hv3,hr3⟩:=(hT 3 (by decide):(Is (.pointer (some ⟨g,1,none⟩))) _ _)
   obtain ⟨hv4,hr4⟩:=(hT 4 (by decide):(Is (.slice pM nM cM)) _ _)
   obtain ⟨hv5,hr5⟩:=(hT 5 (by decide):(Is (.int .u32 (((p:Nat):Int)))) _ _)
   obtain ⟨hv6,hr6⟩:=(hT 6 (by decide):(Is (.int .u64 (((p:Nat):Int)))) _ _)
   obtain ⟨p4,n4,c4,hv7,hr7⟩:=(hT 7 (by decide):(Nt (lim p)) _ _)
   obtain ⟨p5,n5,c5,hv8,hr8⟩:=(hT 8 (by decide):(Nw (lim x5)) _ _)
   obtain ⟨hv9,hr9⟩:=(hT 9 (by decide):(Is (.pointer (some ⟨g,0,none⟩))) _ _)
   obtain ⟨hv10,hr10⟩:=(hT 10 (by decide):(Is (.pointer (some ⟨g,1,none⟩))) _ _)
   simp only [pool,if_true,hr0,hr1,hr2,hr3,hr4,hr5,hr6,hr7,hr8,hr9,hr10,List.nil_append,List.cons_append,List.append_nil] at hS
   simp only [layf,hv0,hv1,hv2,hv3,hv4,hv5,hv6,hv7,hv8,hv9,hv10] at hf
   subst hf; clear hT hv0 hv1 hv2 hv3 hv4 hv5 hv6 hv7 hv8 hv9 hv10 hr0 hr1 hr2 hr3 hr4 hr5 hr6 hr7 hr8 hr9 hr10
   refine wlate 11 rfl (by kernel_rfl) (ostore [.slice p5 n5 c5] [.slice p3 n3 c3,.slice p5 n5 c5,.slice pP l.length cP,.slice pD l.length cD,.map (some gm)] Tryz.sizeOf26 hS 5 rfl rfl (ev rfl rfl) (ev (v:=.slice p5 n5 c5) rfl rfl) rfl rfl rfl rfl rfl rfl ?_)
   clear hS; intro w11 hS
   refine ⟨heldNil,?_⟩
   refine wdone rfl ?_
   refine thenN (wseq ?_)
   refine wstage 10 [83,84,85,86,87,88,89,90,91,92] [[],[0],[1,0],[2,0,1],[],[],[5],[6,5],[7,5,6],[8,5,6,7]] [[],[],[],[],[],[],[],[],[],[]] [] [] (fun i9 => ([fun _ => Is (.pointer (some ⟨g,0,none⟩)),fun _ => Is (.pointer (some ⟨g,0,none⟩)),fun _ => Is (.pointer (some ⟨g,4,none⟩)),fun _ => Is (.map (some gm)),fun _ => Is (.int .u32 (p:Int)),fun _ => Is (.pointer (some ⟨g,0,none⟩)),fun _ => Is (.pointer (some ⟨g,0,none⟩)),fun _ => Is (.pointer (some ⟨g,2,none⟩)),fun _ => Is (.slice pP l.length cP),fun _ => Is (.int .i64 (l.length:Int))]:List (List Value → Tell)).getD i9 (fun _ _ _ => False)) (heldNil) (fun d _ _ _ _ h => (by cases d <;> exact h)) (by kernel_rfl) (by kernel_rfl) (by kernel_rfl) hS ?_ ?_
   ·
    refine stepsCons rfl (fun Q f' w' ρ S ho hT hS hB => ?_) ?_
    ·exact .inl ⟨want_none rfl,omove (v:=.pointer (some ⟨g,0,none⟩)) rfl rfl (ev rfl (ho 0 rfl)) ⟨_,_,rfl,isI,New.same _⟩⟩
    refine stepsCons rfl (fun Q f' w' ρ S ho hT hS hB => ?_) ?_
    ·obtain ⟨hv0,hr0⟩:=(hT 0 83 rfl rfl:(Is (.pointer (some ⟨g,0,none⟩))) _ _)
     obtain hS:=(hS.flat1 hr0).front1
     exact .inl ⟨want_none rfl,onilCheck (a:=⟨g,0,none⟩) rfl rfl (ev rfl hv0) ⟨_,_,rfl,isI,New.same _⟩⟩
    refine stepsCons rfl (fun Q f' w' ρ S ho hT hS hB => ?_) ?_
    ·obtain ⟨hv1,hr1⟩:=(hT 1 84 rfl rfl:(Is (.pointer (some ⟨g,0,none⟩))) _ _)
     obtain hS:=(hS.flat1 hr1).front1
     exact .inl ⟨want_none rfl,ofieldAddr (g:=g) (off:=0) 4 rfl rfl (ev rfl hv1) Tryz.runUnderlying93 rfl Tryz.sizeOf91 rfl ⟨_,_,rfl,isI,New.same _⟩⟩
    refine stepsCons rfl (fun Q f' w' ρ S ho hT hS hB => ?_) ?_
    ·obtain ⟨hv2,hr2⟩:=(hT 2 85 rfl rfl:(Is (.pointer (some ⟨g,4,none⟩))) _ _)
     obtain hS:=(hS.flat1 hr2).front1
     exact .inl ⟨want_none rfl,oload1 (v:=.map (some gm)) (show One Tryz.prog 91 from ⟨Tryz.isAgg91,Tryz.sizeOf91⟩) hS 5 rfl rfl (ev rfl hv2) rfl rfl ⟨_,_,rfl,isI,New.same _⟩⟩
    refine stepsCons rfl (fun Q f' w' ρ S ho hT hS hB => ?_) ?_
    ·exact .inl ⟨want_none rfl,omove (v:=.int .u32 (p:Int)) rfl rfl (ev rfl (ho 2 rfl)) ⟨_,_,rfl,isI,New.same _⟩⟩
    refine stepsCons rfl (fun Q f' w' ρ S ho hT hS hB => ?_) ?_
    ·exact .inl ⟨want_none rfl,omove (v:=.pointer (some ⟨g,0,none⟩)) rfl rfl (ev rfl (ho 0 rfl)) ⟨_,_,rfl,isI,New.same _⟩⟩
    refine stepsCons rfl (fun Q f' w' ρ S ho hT hS hB => ?_) ?_
    ·obtain ⟨hv5,hr5⟩:=(hT 5 88 rfl rfl:(Is (.pointer (some ⟨g,0,none⟩))) _ _)
     obtain hS:=(hS.flat1 hr5).front1
     exact .inl ⟨want_none rfl,onilCheck (a:=⟨g,0,none⟩) rfl rfl (ev rfl hv5) ⟨_,_,rfl,isI,New.same _⟩⟩
    refine stepsCons rfl (fun Q f' w' ρ S ho hT hS hB => ?_) ?_
    ·obtain ⟨hv6,hr6⟩:=(hT 6 89 rfl rfl:(Is (.pointer (some ⟨g,0,none⟩))) _ _)
     obtain hS:=(hS.flat1 hr6).front1
     exact .inl ⟨want_none rfl,ofieldAddr (g:=g) (off:=0) 2 rfl rfl (ev rfl hv6) Tryz.runUnderlying93 rfl Tryz.sizeOf37 rfl ⟨_,_,rfl,isI,New.same _⟩⟩
    refine stepsCons rfl (fun Q f' w' ρ S ho hT hS hB => ?_) ?_
    ·obtain ⟨hv7,hr7⟩:=(hT 7 90 rfl rfl:(Is (.pointer (some ⟨g,2,none⟩))) _ _)
     obtain hS:=(hS.flat1 hr7).front1
     exact .inl ⟨want_none rfl,oload1 (v:=.slice pP l.length cP) (show One Tryz.prog 37 from ⟨Tryz.isAgg37,Tryz.sizeOf37⟩) hS 5 rfl rfl (ev rfl hv7) rfl rfl ⟨_,_,rfl,isI,New.same _⟩⟩
    refine stepsCons rfl (fun Q f' w' ρ S ho hT hS hB => ?_) ?_
    ·obtain ⟨hv8,hr8⟩:=(hT 8 91 rfl rfl:(Is (.slice pP l.length cP)) _ _)
     obtain hS:=(hS.flat1 hr8).front1
     exact .inl ⟨want_none rfl,olen rfl rfl rfl Tryz.runUnderlying37 (p:=pP) (k:=l.length) (m:=cP) (ev rfl hv8) ⟨_,_,rfl,isI,New.same _⟩⟩
    exact stepsNil
   ·
    intro vs ρ w12 f' hf hT hS
    obtain ⟨hv0,hr0⟩:=(hT 0 (by decide):(Is (.pointer (some ⟨g,0,none⟩))) _ _)
    obtain ⟨hv1,hr1⟩:=(hT 1 (by decide):(Is (.pointer (some ⟨g,0,none⟩))) _ _)
    obtain ⟨hv2,hr2⟩:=(hT 2 (by decide):(Is (.pointer (some ⟨g,4,none⟩))) _ _)
    obtain ⟨hv3,hr3⟩:=(hT 3 (by decide):(Is (.map (some gm))) _ _)
    obtain ⟨hv4,hr4⟩:=(hT 4 (by decide):(Is (.int .u32 (((p:Nat):Int)))) _ _)
    obtain ⟨hv5,hr5⟩:=(hT 5 (by decide):(Is (.pointer (some ⟨g,0,none⟩))) _ _)
    obtain ⟨hv6,hr6⟩:=(hT 6 (by decide):(Is (.pointer (some ⟨g,0,none⟩))) _ _)
    obtain ⟨hv7,hr7⟩:=(hT 7 (by decide):(Is (.pointer (some ⟨g,2,none⟩))) _ _)
    obtain ⟨hv8,hr8⟩:=(hT 8 (by decide):(Is (.slice pP l.length cP)) _ _)
    obtain ⟨hv9,hr9⟩:=(hT 9 (by decide):(Is (.int .i64 (((l.length:Nat):Int)))) _ _)
    simp only [pool,if_true,hr0,hr1,hr2,hr3,hr4,hr5,hr6,hr7,hr8,hr9,List.nil_append,List.cons_append,List.append_nil] at hS
    simp only [layf,hv0,hv1,hv2,hv3,hv4,hv5,hv6,hv7,hv8,hv9] at hf
    subst hf; clear hT hv0 hv1 hv2 hv3 hv4 hv5 hv6 hv7 hv8 hv9 hr0 hr1 hr2 hr3 hr4 hr5 hr6 hr7 hr8 hr9
    refine wlate 10 rfl (by kernel_rfl) (omapUpdate (p:=p) (c:=l.length) hS 10 rfl rfl Tryz.underlying91 Tryz.underlying40 Tryz.underlying3 (ev (v:=.map (some gm)) rfl rfl) (ev (v:=.int .u32 (p:Int)) rfl rfl) (ev (v:=.int .i64 (l.length:Int)) rfl rfl) hp2 (by omega) (by show (mods l).length < maxLen; rw [show (mods l).length = l.length by simp [mods]]; simp only [maxLen]; omega) rfl ?_)
    clear hS; intro w13 hS
    refine ⟨heldNil,?_⟩
    refine wdone rfl ?_
    refine thenN (wseq (wreg (wl rfl (omove (v:=.pointer (some ⟨g,0,none⟩)) rfl rfl (ev rfl rfl) ?_))))
    refine wl rfl (omove (v:=.pointer (some ⟨g,0,none⟩)) rfl rfl (ev rfl rfl) ?_)
    refine wl rfl (onilCheck (a:=⟨g,0,none⟩) rfl rfl (ev rfl rfl) ?_)
    refine wl rfl (ofieldAddr (g:=g) (off:=0) 2 rfl rfl (ev rfl rfl) Tryz.runUnderlying93 rfl Tryz.sizeOf37 rfl ?_)
    refine wl rfl (oload1 (v:=.slice pP l.length cP) (show One Tryz.prog 37 from ⟨Tryz.isAgg37,Tryz.sizeOf37⟩) hS 5 rfl rfl (ev rfl rfl) rfl rfl ?_)
    refine wl rfl (omove (v:=.int .u32 (((r % p:Nat):Int))) rfl rfl (ev rfl rfl) ?_)
    refine wl rfl (omove (v:=.int .u32 (p:Int)) rfl rfl (ev rfl rfl) ?_)
    refine wl rfl (obuild (ps:=#[(0,.int .u32 (((r % p:Nat):Int))),(1,.int .u32 (p:Int))]) (v:=.agg #[.int .u32 (((r % p:Nat):Int)),.int .u32 (p:Int)]) rfl rfl (parts2 (ev (v:=.int .u32 (((r % p:Nat):Int))) rfl rfl) (ev (v:=.int .u32 (p:Int)) rfl rfl)) (fun w => by simp [go_sem,Instr.build,Instr.fill]) ?_)
    refine wl rfl (obslice (ps:=#[(0,.agg #[.int .u32 (((r % p:Nat):Int)),.int .u32 (p:Int)])]) (z:=.agg #[.int .u32 0,.int .u32 0]) [.int .u32 (((r % p:Nat):Int)),.int .u32 (p:Int)] hS rfl rfl Tryz.runUnderlying37 Tryz.sizeOf42 Tryz.zeroValue42 (parts1 (ev (v:=.agg #[.int .u32 (((r % p:Nat):Int)),.int .u32 (p:Int)]) rfl rfl)) rfl (by decide) fill2_1 ?_)
    clear hS; intro g14 w15 hS
    obtain hS:=(show Sep w0 (.lst 42 2 pP l.length cP (rpE (rps l)) :: .blk g14 [.int .u32 (((r % p:Nat):Int)),.int .u32 (((p:Nat):Int))] 42 :: .rowm p5 n5 c5 (lim x5) :: .row p4 n4 c4 (lim p) :: .rowm p3 n3 c3 (lim x3) :: .row p2 n2 c2 (lim x2) :: .row p1 n1 c1 (lim D) :: .blk g [.slice p3 n3 c3,.slice p5 n5 c5,.slice pP l.length cP,.slice pD l.length cD,.map (some gm)] 93 :: .rowm pV nV cV (lim (cv l).1) :: .rowm pM nM cM (lim (cv l).2) :: .lst 40 1 pD l.length cD (dgE (dgs l)) :: .mp Tryz.prog 40 3 gm (mods l ++ [p]) :: R) w15 from Sep.pickT [.blk g14 [.int .u32 (((r % p:Nat):Int)),.int .u32 (((p:Nat):Int))] 42,.rowm p5 n5 c5 (lim x5),.row p4 n4 c4 (lim p),.rowm p3 n3 c3 (lim x3),.row p2 n2 c2 (lim x2),.row p1 n1 c1 (lim D),.blk g [.slice p3 n3 c3,.slice p5 n5 c5,.slice pP l.length cP,.slice pD l.length cD,.map (some gm)] 93,.rowm pV nV cV (lim (cv l).1),.rowm pM nM cM (lim (cv l).2),.lst 42 2 pP l.length cP (rpE (rps l)),.lst 40 1 pD l.length cD (dgE (dgs l)),.mp Tryz.prog 40 3 gm (mods l ++ [p])] [.lst 42 2 pP l.length cP (rpE (rps l)),.blk g14 [.int .u32 (((r % p:Nat):Int)),.int .u32 (((p:Nat):Int))] 42,.rowm p5 n5 c5 (lim x5),.row p4 n4 c4 (lim p),.rowm p3 n3 c3 (lim x3),.row p2 n2 c2 (lim x2),.row p1 n1 c1 (lim D),.blk g [.slice p3 n3 c3,.slice p5 n5 c5,.slice pP l.length cP,.slice pD l.length cD,.map (some gm)] 93,.rowm pV nV cV (lim (cv l).1),.rowm pM nM cM (lim (cv l).2),.lst 40 1 pD l.length cD (dgE (dgs l)),.mp Tryz.prog 40 3 gm (mods l ++ [p])] hS [9,0,1,2,3,4,5,6,7,8,10,11] (by decide) rfl)
    refine wl rfl (oappendL (p:=pP) (m:=l.length) (c:=cP) (g2:=g14) (c2:=1) (off:=0) [.int .u32 (((r % p:Nat):Int)),.int .u32 (p:Int)] [] hS rfl rfl Tryz.underlying37 infoRest rfl (by decide) (ev (v:=.slice pP l.length cP) rfl rfl) (ev (v:=.slice (some ⟨g14,0,none⟩) 1 1) rfl rfl) (fun j v hj => by rw [Nat.zero_add]; exact (blk_cell (hS.blkAt 1 rfl) j).trans hj) rfl rfl rfl (by omega) (by omega) ?_)
    clear hS; intro p17 c18 w16 hS
    refine wl rfl (onilCheck (a:=⟨g,0,none⟩) rfl rfl (ev rfl rfl) ?_)
    refine wl rfl (ofieldAddr (g:=g) (off:=0) 2 rfl rfl (ev rfl rfl) Tryz.runUnderlying93 rfl Tryz.sizeOf37 rfl ?_)
    refine wl rfl (ostore [.slice p17 ((l.length + 1)) c18] [.slice p3 n3 c3,.slice p5 n5 c5,.slice p17 ((l.length + 1)) c18,.slice pD l.length cD,.map (some gm)] Tryz.sizeOf37 hS 7 rfl rfl (ev rfl rfl) (ev (v:=.slice p17 ((l.length + 1)) c18) rfl rfl) rfl rfl rfl rfl rfl rfl ?_)
    clear hS; intro w19 hS
    refine wnil (thenN (wseq (wreg (wl rfl (omove (v:=.pointer (some ⟨g,0,none⟩)) rfl rfl (ev rfl rfl) ?_)))))
    refine wl rfl (omove (v:=.pointer (some ⟨g,0,none⟩)) rfl rfl (ev rfl rfl) ?_)
    refine wl rfl (onilCheck (a:=⟨g,0,none⟩) rfl rfl (ev rfl rfl) ?_)
    refine wl rfl (ofieldAddr (g:=g) (off:=0) 3 rfl rfl (ev rfl rfl) Tryz.runUnderlying93 rfl Tryz.sizeOf25 rfl ?_)
    refine wl rfl (oload1 (v:=.slice pD l.length cD) (show One Tryz.prog 25 from ⟨Tryz.isAgg25,Tryz.sizeOf25⟩) hS 7 rfl rfl (ev rfl rfl) rfl rfl ?_)
    refine wl rfl (omove (v:=.int .u32 (D:Int)) rfl rfl (ev rfl rfl) ?_)
    refine wl rfl (obslice (ps:=#[(0,.int .u32 (D:Int))]) (z:=.int .u32 0) [.int .u32 (D:Int)] hS rfl rfl Tryz.runUnderlying25 Tryz.sizeOf40 Tryz.zeroValue40 (parts1 (ev (v:=.int .u32 (D:Int)) rfl rfl)) rfl (by decide) fill1_1 ?_)
    clear hS; intro g20 w21 hS
    obtain hS:=(show Sep w0 (.lst 40 1 pD l.length cD (dgE (dgs l)) :: .blk g20 [.int .u32 (((D:Nat):Int))] 40 :: .lst 42 2 p17 ((l.length + 1)) c18 ((rpE (rps l)) ++ [⟨[.int .u32 (((r % p:Nat):Int)),.int .u32 (((p:Nat):Int))],[]⟩]) :: .blk g14 [.int .u32 (((r % p:Nat):Int)),.int .u32 (((p:Nat):Int))] 42 :: .rowm p5 n5 c5 (lim x5) :: .row p4 n4 c4 (lim p) :: .rowm p3 n3 c3 (lim x3) :: .row p2 n2 c2 (lim x2) :: .row p1 n1 c1 (lim D) :: .blk g [.slice p3 n3 c3,.slice p5 n5 c5,.slice p17 ((l.length + 1)) c18,.slice pD l.length cD,.map (some gm)] 93 :: .rowm pV nV cV (lim (cv l).1) :: .rowm pM nM cM (lim (cv l).2) :: .mp Tryz.prog 40 3 gm (mods l ++ [p]) :: R) w21 from Sep.pickT [.blk g20 [.int .u32 (((D:Nat):Int))] 40,.lst 42 2 p17 ((l.length + 1)) c18 ((rpE (rps l)) ++ [⟨[.int .u32 (((r % p:Nat):Int)),.int .u32 (((p:Nat):Int))],[]⟩]),.blk g14 [.int .u32 (((r % p:Nat):Int)),.int .u32 (((p:Nat):Int))] 42,.rowm p5 n5 c5 (lim x5),.row p4 n4 c4 (lim p),.rowm p3 n3 c3 (lim x3),.row p2 n2 c2 (lim x2),.row p1 n1 c1 (lim D),.blk g [.slice p3 n3 c3,.slice p5 n5 c5,.slice p17 ((l.length + 1)) c18,.slice pD l.length cD,.map (some gm)] 93,.rowm pV nV cV (lim (cv l).1),.rowm pM nM cM (lim (cv l).2),.lst 40 1 pD l.length cD (dgE (dgs l)),.mp Tryz.prog 40 3 gm (mods l ++ [p])] [.lst 40 1 pD l.length cD (dgE (dgs l)),.blk g20 [.int .u32 (((D:Nat):Int))] 40,.lst 42 2 p17 ((l.length + 1)) c18 ((rpE (rps l)) ++ [⟨[.int .u32 (((r % p:Nat):Int)),.int .u32 (((p:Nat):Int))],[]⟩]),.blk g14 [.int .u32 (((r % p:Nat):Int)),.int .u32 (((p:Nat):Int))] 42,.rowm p5 n5 c5 (lim x5),.row p4 n4 c4 (lim p),.rowm p3 n3 c3 (lim x3),.row p2 n2 c2 (lim x2),.row p1 n1 c1 (lim D),.blk g [.slice p3 n3 c3,.slice p5 n5 c5,.slice p17 ((l.length + 1)) c18,.slice pD l.length cD,.map (some gm)] 93,.rowm pV nV cV (lim (cv l).1),.rowm pM nM cM (lim (cv l).2),.mp Tryz.prog 40 3 gm (mods l ++ [p])] hS [11,0,1,2,3,4,5,6,7,8,9,10,12] (by decide) rfl)
    refine wl rfl (oappendL (p:=pD) (m:=l.length) (c:=cD) (g2:=g20) (c2:=1) (off:=0) [.int .u32 (D:Int)] [] hS rfl rfl Tryz.underlying25 infouint32 rfl (by decide) (ev (v:=.slice pD l.length cD) rfl rfl) (ev (v:=.slice (some ⟨g20,0,none⟩) 1 1) rfl rfl) (fun j v hj => by rw [Nat.zero_add]; exact (blk_cell (hS.blkAt 1 rfl) j).trans hj) rfl rfl rfl (by omega) (by omega) ?_)
    clear hS; intro p23 c24 w22 hS
    refine wl rfl (onilCheck (a:=⟨g,0,none⟩) rfl rfl (ev rfl rfl) ?_)
    refine wl rfl (ofieldAddr (g:=g) (off:=0) 3 rfl rfl (ev rfl rfl) Tryz.runUnderlying93 rfl Tryz.sizeOf25 rfl ?_)
    refine wl rfl (ostore [.slice p23 ((l.length + 1)) c24] [.slice p3 n3 c3,.slice p5 n5 c5,.slice p17 ((l.length + 1)) c18,.slice p23 ((l.length + 1)) c24,.map (some gm)] Tryz.sizeOf25 hS 9 rfl rfl (ev rfl rfl) (ev (v:=.slice p23 ((l.length + 1)) c24) rfl rfl) rfl rfl rfl rfl rfl rfl ?_)
    clear hS; intro w25 hS
    refine wnil (thenN (wseq (wreg (wl rfl (oassign (v:=.int .i64 0) rfl rfl evc ?_)))))
    refine wnil (thenN ?_)
    refine wleave ?_
    refine wret1 Tryz.results38 (tellT (v:=.int .i64 0) rfl rfl) ?_
    have hc:=cv_put hD hx2 hx3 hx5
    refine ⟨_,_,rfl,⟨⟨p3,n3,c3,p5,n5,c5,p17,c18,p23,c24,gm⟩,rfl,rfl⟩,Sep.pack _ rfl ?_⟩
    rw [crtR_snoc hD hc]
    exact Sep.pickT [.lst 40 1 p23 ((l.length + 1)) c24 ((dgE (dgs l)) ++ [⟨[.int .u32 (D:Int)],[]⟩]),.blk g20 [.int .u32 (D:Int)] 40,.lst 42 2 p17 ((l.length + 1)) c18 ((rpE (rps l)) ++ [⟨[.int .u32 (((r % p:Nat):Int)),.int .u32 (p:Int)],[]⟩]),.blk g14 [.int .u32 (((r % p:Nat):Int)),.int .u32 (p:Int)] 42,.rowm p5 n5 c5 (lim x5),.row p4 n4 c4 (lim p),.rowm p3 n3 c3 (lim x3),.row p2 n2 c2 (lim x2),.row p1 n1 c1 (lim D),.blk g [.slice p3 n3 c3,.slice p5 n5 c5,.slice p17 ((l.length + 1)) c18,.slice p23 ((l.length + 1)) c24,.map (some gm)] 93,.rowm pV nV cV (lim (cv l).1),.rowm pM nM cM (lim (cv l).2),.mp Tryz.prog 40 3 gm (mods l ++ [p])] [.blk g [.slice p3 n3 c3,.slice p5 n5 c5,.slice p17 ((l.length + 1)) c18,.slice p23 ((l.length + 1)) c24,.map (some gm)] 93,.rowm p3 n3 c3 (lim x3),.rowm p5 n5 c5 (lim x5),.lst 42 2 p17 ((l.length + 1)) c18 ((rpE (rps l)) ++ [⟨[.int .u32 (((r % p:Nat):Int)),.int .u32 (p:Int)],[]⟩]),.lst 40 1 p23 ((l.length + 1)) c24 ((dgE (dgs l)) ++ [⟨[.int .u32 (D:Int)],[]⟩]),.mp Tryz.prog 40 3 gm (mods l ++ [p])] hS [9,6,4,2,0,12] (by decide) rfl
end Go.Proofs.YtjbcjlbbipohjaaGreatDoor
