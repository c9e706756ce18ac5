/-
  Contracts and lemmas, joined in one text.
-/
import Derived.Test.YtnlnibngpeempaaGreatDoorQ1
import Derived.Test.YtnlnibngpeempaaGreatDoorB1
import Derived.Test.YtnlnibngpeempaaGreatDoorOP
import Derived.Test.YtnlnibngpeempaaGreatDoorH2
import Derived.Test.YtnlnibngpeempaaGreatDoorV3
import Derived.Test.YtnlnibngpeempaaGreatDoorRC
set_option linter.unusedVariables false
set_option linter.unusedSimpArgs false
/-
  Tables of fractions and of integers of one's own.
-/
namespace Go.Proofs.YtnlnibngpeempaaGreatDoor
open Go.RowKit
structure Fq where
  p:Option Addr
  n:Nat
  c:Nat
  q:Option Addr
  m:Nat
  d:Nat
  z:Int
  y:Int
def fqC (e:Fq):List Value:=[.bool (ng e.z),.slice e.p e.n e.c,.bool (ng e.y),.slice e.q e.m e.d]
def fqE (e:Fq):El:=⟨[.bool (ng e.z),.slice e.p e.n e.c,.bool (ng e.y),.slice e.q e.m e.d],[.rowm e.p e.n e.c (lim e.z.natAbs),.rowm e.q e.m e.d (lim e.y.natAbs)]⟩
def fqs (L:List Fq):List El:=L.map fqE
def fqv (L:List Fq):List (Int × Int):=L.map fun e => (e.z,e.y)
structure Fw where
  p:Option Addr
  c:Nat
  L:List Fq
def fwE (r:Fw):El:=⟨[.slice r.p r.L.length r.c],[.lst 43 4 r.p r.L.length r.c (fqs r.L)]⟩
def ftE (T:List Fw):List El:=T.map fwE
def ftv (T:List Fw):List (List (Int × Int)):=T.map fun r => fqv r.L
theorem fqv_len (L:List Fq):(fqv L).length = L.length:=List.length_map _
theorem ftv_len (T:List Fw):(ftv T).length = T.length:=List.length_map _
theorem ftv_snoc (T:List Fw) (r:Fw):ftv (T ++ [r]) = ftv T ++ [fqv r.L]:=by simp [ftv]
theorem ft_snoc {T:List Fw} {p:Option Addr} {n c:Nat} {L:List Fq} (h:L.length = n):ftE T ++ [⟨[.slice p n c],[.lst 43 4 p n c (fqs L)]⟩] = ftE (T ++ [⟨p,c,L⟩]):=by subst h; simp [ftE,fwE]
def RQb (w:World) (p:Option Addr) (n:Nat) (T:List (List (Int × Int))) (K:Nat):Prop:=T.length = n ∧ n ≤ 1048576 ∧ ∀ (i:Nat) (L:List (Int × Int)),T[i]? = some L → ∃ b off q c,p = some ⟨b,off,none⟩ ∧ (∀ j v,[Value.slice q L.length c][j]? = some v → w.cell? ⟨b,off + i * 1 + j,none⟩ = some v) ∧ Rs w q L.length L K
theorem RQb.at {w w':World} {R:List Res} {p:Option Addr} {n K:Nat} {T:List (List (Int × Int))} (h:RQb w p n T K) (hS:Sep w R w'):RQb w' p n T K:=by
  refine ⟨h.1,h.2.1,fun i L hL => ?_⟩
  obtain ⟨b,off,q,c,hp,hc,hs⟩:=h.2.2 i L hL
  exact ⟨b,off,q,c,hp,fun j v hj => hS.cellAt (hc j v hj),hs.on hS.below (Nat.le_refl _)⟩
def AllF (w:World) (es:List El) (F:List (Int × Int)) (K:Nat):Prop:=es.length = F.length ∧ Els 4 es ∧ flatR es = [] ∧ ∀ (i:Nat) (e:Int × Int),F[i]? = some e → ∃ b q n k b2 q2 n2 k2,es[i]? = some ⟨[.bool b,.slice q n k,.bool b2,.slice q2 n2 k2],[]⟩ ∧ Zr w b q n k e.1 K ∧ Zr w b2 q2 n2 k2 e.2 K
theorem AllF.nil (w:World) (K:Nat):AllF w [] [] K:=⟨rfl,Els.nil,rfl,fun i z h => by simp at h⟩
theorem AllF.one {w:World} {b b2:Bool} {q q2:Option Addr} {n k n2 k2 K:Nat} {e:Int × Int} (h1:Zr w b q n k e.1 K) (h2:Zr w b2 q2 n2 k2 e.2 K):AllF w [⟨[.bool b,.slice q n k,.bool b2,.slice q2 n2 k2],[]⟩] [e] K:=by
 refine ⟨rfl,fun el hel => ?_,rfl,fun i z hi => ?_⟩
 ·rw [List.mem_singleton.1 hel]; exact ⟨rfl,rfl,fun r hr => by cases hr⟩
 have h0:i = 0:=by have:=(List.getElem?_eq_some_iff.1 hi).1; simp at this; omega
 subst h0
 simp at hi
 subst hi
 exact ⟨_,_,_,_,_,_,_,_,rfl,h1,h2⟩
theorem AllF.rs {w w':World} {R:List Res} (hS:Sep w R w') (k:Nat) {t:TypeId} {p:Option Addr} {m c K:Nat} {es:List El} {F:List (Int × Int)} (hk:R[k]? = some (.lst t 4 p m c es)) (h:AllF w es F K) (hm:m ≤ 1048576):Rs w' p m F K:=by
  have hl:=hS.lstLen k hk
  refine ⟨by rw [← h.1]; exact hl.symm,hm,fun i e he => ?_⟩
  obtain ⟨b,q,n,k2,b2,q2,n2,k3,h1,h2,h3⟩:=h.2.2.2 i e he
  obtain ⟨g,h4,h5,_⟩:=hS.lstCell k hk h1 (by decide)
  exact ⟨g,0,b,q,n,k2,b2,q2,n2,k3,h4,h5,h2.at hS,h3.at hS⟩
def nrm (T:List (List Int)):List (List (Bool × List Nat)):=T.map fun L => L.map fun z => (ng z,lim z.natAbs)
theorem nrm_tvr (T:List (List Int)):tvr (nrm T) = T:=by
  unfold tvr nrm
  rw [List.map_map]
  conv => rhs; rw [← List.map_id T]
  exact List.map_congr_left fun L _ => map_zvr L
theorem TRw.nb {w:World} {p:Option Addr} {n K:Nat} {T:List (List Int)} (h:TRw w p n (nrm T) K):TB w p n T K:=by
  have:=h.tb (Nat.le_refl K); rwa [nrm_tvr] at this
open Go.RowKit
theorem fqs_get {L:List Fq} {i:Nat} {e:Fq} (h:L[i]? = some e):(fqs L)[i]? = some (fqE e):=by simp [fqs,h]
theorem fqv_get {L:List Fq} {i:Nat} {e:Fq} (h:L[i]? = some e):(fqv L)[i]? = some (e.z,e.y):=by simp [fqv,h]
theorem ftE_len (T:List Fw):(ftE T).length = T.length:=List.length_map _
theorem ftE_get {T:List Fw} {i:Nat} {r:Fw} (h:T[i]? = some r):(ftE T)[i]? = some (fwE r):=by simp [ftE,h]
theorem ftv_get {T:List Fw} {i:Nat} {r:Fw} (h:T[i]? = some r):(ftv T)[i]? = some (fqv r.L):=by simp [ftv,h]
theorem fqs_set (L:List Fq) (i:Nat) (e:Fq):(fqs L).set i (fqE e) = fqs (L.set i e):=by unfold fqs; rw [List.map_set]
theorem fqv_set (L:List Fq) (i:Nat) (e:Fq):fqv (L.set i e) = (fqv L).set i (e.z,e.y):=by unfold fqv; rw [List.map_set]
theorem ftv_set (T:List Fw) (i:Nat) (r:Fw):ftv (T.set i r) = (ftv T).set i (fqv r.L):=by unfold ftv; rw [List.map_set]
theorem fr_cell {w:World} {t:TypeId} {p:Option Addr} {c i:Nat} {L:List Fq} {e:Fq} (h:(Res.lst t 4 p L.length c (fqs L)).holds w) (hi:L[i]? = some e) :
  ∃ g,p = some ⟨g,0,none⟩ ∧ (∀ j v,(fqC e)[j]? = some v → w.cell? ⟨g,0 + i * 4 + j,none⟩ = some v) ∧ (∀ K,Wd e.z K → Zr w (ng e.z) e.p e.n e.c e.z K) ∧ (∀ K,Wd e.y K → Zr w (ng e.y) e.q e.m e.d e.y K):=by
 obtain ⟨g,h1,h2,h3⟩:=lst_cell h (fqs_get hi) (by decide)
 refine ⟨g,h1,h2,fun K hK => ?_,fun K hK => ?_⟩
 ·have hf:Fr 0 w e.p e.n e.c (lim e.z.natAbs):=h3 _ List.mem_cons_self
  exact hf.sl.zr hK
 have hf:Fr 0 w e.q e.m e.d (lim e.y.natAbs):=h3 _ (List.mem_cons_of_mem _ List.mem_cons_self)
 exact hf.sl.zr hK
theorem Sep.frow {w0 w:World} {R:List Res} (hS:Sep w0 R w) (k:Nat) {t:TypeId} {p:Option Addr} {n c i:Nat} {T:List Fw} {r:Fw} (hk:R[k]? = some (.lst t 1 p n c (ftE T))) (hi:T[i]? = some r) :
  ∃ g,p = some ⟨g,0,none⟩ ∧ (∀ j v,[Value.slice r.p r.L.length r.c][j]? = some v → w.cell? ⟨g,0 + i * 1 + j,none⟩ = some v) ∧ (Res.lst 43 4 r.p r.L.length r.c (fqs r.L)).holds w:=by
 obtain ⟨g,h1,h2,h3⟩:=lst_cell (show (Res.lst t 1 p n c (ftE T)).holds w from hS.get k hk) (ftE_get hi) (by decide)
 exact ⟨g,h1,h2,h3 _ List.mem_cons_self⟩
section
variable {w0 w:World} {R:List Res} {t:TypeId} {p pr:Option Addr} {n c cr i j g K:Nat} {T:List Fw} {L:List Fq} {e:Fq}
theorem Sep.frc (hS:Sep w0 R w) (k:Nat) (hk:R[k]? = some (.lst t 1 p n c (ftE T))) (hi:T[i]? = some ⟨pr,cr,L⟩) (hp:p = some ⟨g,0,none⟩):w.cell? ⟨g,0 + i * 1,none⟩ = some (.slice pr L.length cr):=by
  obtain ⟨g',h1,h2,_⟩:=hS.frow k hk hi
  rw [hp] at h1
  simp only [Option.some.injEq,Addr.mk.injEq,and_true] at h1
  subst h1
  have:=h2 0 _ rfl
  rwa [Nat.add_zero] at this
theorem Sep.frp (hS:Sep w0 R w) (k:Nat) (hk:R[k]? = some (.lst t 1 p n c (ftE T))) (hi:T[i]? = some ⟨pr,cr,L⟩) (h0:0 < L.length):∃ g,pr = some ⟨g,0,none⟩:=by
  obtain ⟨_,_,_,h3⟩:=hS.frow k hk hi
  obtain ⟨g,h4,_⟩:=fr_cell h3 (List.getElem?_eq_getElem h0)
  exact ⟨g,h4⟩
theorem Sep.fec (hS:Sep w0 R w) (k:Nat) (hk:R[k]? = some (.lst t 1 p n c (ftE T))) (hi:T[i]? = some ⟨pr,cr,L⟩) (hj:L[j]? = some e) (hp:pr = some ⟨g,0,none⟩):∀ l v,(fqC e)[l]? = some v → w.cell? ⟨g,0 + j * 4 + l,none⟩ = some v:=by
  obtain ⟨_,_,_,h3⟩:=hS.frow k hk hi
  obtain ⟨g',h4,h5,_⟩:=fr_cell h3 hj
  rw [hp] at h4
  simp only [Option.some.injEq,Addr.mk.injEq,and_true] at h4
  subst h4; exact h5
theorem Sep.fez (hS:Sep w0 R w) (k:Nat) (hk:R[k]? = some (.lst t 1 p n c (ftE T))) (hi:T[i]? = some ⟨pr,cr,L⟩) (hj:L[j]? = some e) (hw:Wd e.z K):Zr w (ng e.z) e.p e.n e.c e.z K:=by
  obtain ⟨_,_,_,h3⟩:=hS.frow k hk hi
  obtain ⟨_,_,_,h6,_⟩:=fr_cell h3 hj
  exact h6 K hw
theorem Sep.fed (hS:Sep w0 R w) (k:Nat) (hk:R[k]? = some (.lst t 1 p n c (ftE T))) (hi:T[i]? = some ⟨pr,cr,L⟩) (hj:L[j]? = some e) (hw:Wd e.y K):Zr w (ng e.y) e.q e.m e.d e.y K:=by
  obtain ⟨_,_,_,h3⟩:=hS.frow k hk hi
  obtain ⟨_,_,_,_,h6⟩:=fr_cell h3 hj
  exact h6 K hw
theorem Sep.ftake {m:Nat} (hS:Sep w0 (.lst t 1 p n c (ftE T) :: R) w) (hi:T[i]? = some ⟨pr,cr,L⟩) (hm:L.length = m):Sep w0 (.lst 43 4 pr m cr (fqs L) :: .lst t 1 p n c ((ftE T).set i ⟨[.slice pr m cr],[]⟩) :: R) w:=by
  subst hm; exact hS.takeEl (ftE_get hi)
theorem Sep.fput {m:Nat} (hS:Sep w0 (.lst 43 4 pr m cr (fqs L) :: .lst t 1 p n c ((ftE T).set i ⟨[.slice pr m cr],[]⟩) :: R) w) (hi:i < T.length) (hm:L.length = m):Sep w0 (.lst t 1 p n c (ftE (T.set i ⟨pr,cr,L⟩)) :: R) w:=by
  subst hm
  have h:=Sep.putEl (rs:=[.lst 43 4 pr L.length cr (fqs L)]) (i:=i) (cs:=[.slice pr L.length cr]) (es:=(ftE T).set i ⟨[.slice pr L.length cr],[]⟩) hS (List.getElem?_set_self (by rw [ftE_len]; exact hi)) rfl
  rw [List.set_set] at h
  have e:(ftE T).set i ⟨[.slice pr L.length cr],[.lst 43 4 pr L.length cr (fqs L)]⟩ = ftE (T.set i ⟨pr,cr,L⟩):=by unfold ftE; rw [List.map_set]; rfl
  rwa [e] at h
end
open Go.RowKit
theorem dt_low:∀ {c n:Nat} {A:Nat → Nat → Int},c < n → (∀ r s,c ≤ r → r < n → s ≤ c → A r s = 0) → dt n A = 0
 | c,n + 1,A,hc,h => su_zero fun i hi => by
  by_cases e:c ≤ i
  ·rw [h i 0 e hi (Nat.zero_le _),Int.mul_zero,Int.zero_mul]
  obtain ⟨c',rfl⟩:∃ c',c = c' + 1:=⟨c - 1,by omega⟩
  rw [dt_low (c:=c') (n:=n) (A:=mnr A i) (by omega) fun r s hr hrn hs => by
   show A (if r < i then r else r + 1) (s + 1) = 0
   rw [if_neg (by omega)]; exact h (r + 1) (s + 1) (by omega) (by omega) (by omega),Int.mul_zero]
theorem dt_wrows {n c:Nat} {M:Nat → Nat → Int} (hc:c ≤ n):∀ m,c + m ≤ n → ∃ q:Int,(dt c M ≠ 0 → q ≠ 0) ∧ dt n (fun r s => if c ≤ r ∧ r < c + m then wrw M c r s else M r s) = q * dt n M
 | 0,_ => ⟨1,fun _ => by decide,by rw [Int.one_mul]; exact dt_congr fun r s _ _ => by rw [if_neg (by omega)]⟩
 | m + 1,hm => by
  obtain ⟨q,h1,h2⟩:=dt_wrows (M:=M) hc m (by omega)
  obtain ⟨A,hA⟩:∃ A,A = fun r s => if c ≤ r ∧ r < c + m then wrw M c r s else M r s:=⟨_,rfl⟩
  rw [← hA] at h2
  have h3:=wr_dt (M:=M) (c:=c) (n:=n) (i:=c + m) (k:=c + m) A (fun s => s) (by omega) (by omega) fun r hr => by rw [hA]; funext s; exact if_neg (by omega)
  have e1:up A (c + m) (fun s => M (c + m) s) = A:=by
   funext r s
   by_cases e:r = c + m
   ·subst e; rw [up_at,hA]; exact (if_neg (by omega)).symm
   rw [up_ne e]
  rw [e1,h2] at h3
  refine ⟨dt c M * q,fun h0 h => (Int.mul_eq_zero.1 h).elim h0 (h1 h0),?_⟩
  rw [Int.mul_assoc, ← h3]
  refine dt_congr fun r s _ _ => ?_
  by_cases e:r = c + m
  ·subst e; rw [up_at,if_pos (by omega)]
  rw [up_ne e,hA]
  by_cases e2:c ≤ r ∧ r < c + m
  ·rw [if_pos (by omega)]; exact (if_pos e2).symm
  rw [if_neg (by omega)]; exact (if_neg e2).symm
theorem dt_none {n c:Nat} {M:Nat → Nat → Int} (hc:c < n) (h0:dt c M ≠ 0) (h:∀ i,c ≤ i → i < n → mn M c i c = 0):dt n M = 0:=by
 obtain ⟨q,h1,h2⟩:=dt_wrows (n:=n) (c:=c) (M:=M) (by omega) (n - c) (by omega)
 rw [dt_low hc fun r s hr hrn hs => by
  rw [if_pos (by omega)]
  by_cases e:s = c
  ·subst e; rw [← mn_wr h0]; exact h r hr hrn
  exact wr_zero (by omega)] at h2
 rcases Int.mul_eq_zero.1 h2.symm with h3 | h3
 ·exact absurd h3 (h1 h0)
 exact h3
def swM (M:Nat → Nat → Int) (i k:Nat):Nat → Nat → Int:=fun r => M (tr i k r)
theorem swM_dt {n i k:Nat} (hi:i < n) (hk:k < n) (hne:i ≠ k) (M:Nat → Nat → Int):dt n (swM M i k) = -dt n M:=by
 rw [← dt_swap hi hk hne]
 refine dt_congr fun r c _ _ => ?_
 unfold swM tr
 by_cases e:r = k
 ·subst e; rw [if_neg (fun h => hne h.symm),if_pos rfl,up_at]
 rw [up_ne e]
 by_cases e2:r = i
 ·subst e2; rw [if_pos rfl,up_at]
 rw [if_neg e2,if_neg e,up_ne e2]
theorem tr_low {c k r:Nat} (h:r < c) (hk:c ≤ k):tr c k r = r:=by unfold tr; rw [if_neg (by omega),if_neg (by omega)]
theorem swM_lead {c k:Nat} (hk:c ≤ k) (M:Nat → Nat → Int):dt c (swM M c k) = dt c M:=dt_congr fun r s hr _ => by
  show M (tr c k r) s = _; rw [tr_low hr hk]
theorem swM_mn {c k i j:Nat} (hk:c ≤ k) (M:Nat → Nat → Int):mn (swM M c k) c i j = mn M c (tr c k i) j:=dt_congr fun r s hr _ => by
  show M (tr c k (if r < c then r else i)) _ = M (if r < c then r else tr c k i) _
  by_cases e:r < c
  · rw [if_pos e,if_pos e,tr_low e hk]
  rw [if_neg e,if_neg e]
theorem sN_su (V:Nat → Nat):∀ n,((sN n V:Nat):Int) = su n fun r => (V r:Int)
  | 0 => rfl
  | n + 1 => by show ((sN n V + V n:Nat):Int) = su n (fun r => (V r:Int)) + (V n:Int); rw [← sN_su V n]; omega
theorem sN_tr {n i k:Nat} (hi:i < n) (hk:k < n) (V:Nat → Nat):sN n (fun r => V (tr i k r)) = sN n V:=by
  have h1:=sN_su (fun r => V (tr i k r)) n
  rw [su_tr (n:=n) (fun r => (V r:Int)) hi hk, ← sN_su] at h1
  omega
theorem fr_step {M:Nat → Nat → Int} {c l m:Nat} (h0:dt c M ≠ 0) (h1:mn M c c c ≠ 0):RN (mn M c c c * mn M c l m - mn M c l c * mn M c c m) (dt c M * mn M c c c) = RN (mn M (c + 1) l m) (dt (c + 1) M) ∧ RD (mn M c c c * mn M c l m - mn M c l c * mn M c c m) (dt c M * mn M c c c) = RD (mn M (c + 1) l m) (dt (c + 1) M):=by
  rw [← mn_lead M c]
  refine R_same (fun h => (Int.mul_eq_zero.1 h).elim h0 h1) h1 ?_
  rw [← mn_step h0 h1]
  grind
theorem dt_cf (m:Nat) (A:Nat → Nat → Int):dt m A = cf m A (fun _ _ => 0) 0:=by
  have h:=cf_val m A (fun _ _ => 0) 0
  rw [pv_head,Int.zero_mul,Int.add_zero] at h
  rw [h]
  exact dt_congr fun r c _ _ => by omega
theorem dt_pB {m:Nat} {A:Nat → Nat → Int} {f:Nat → Nat} (h:∀ r,r < m → ras m A r ≤ f r):(dt m A).natAbs ≤ pB m f:=by
  rw [dt_cf]
  refine Nat.le_trans (cf_le m A _ 0) (er_pB (fun r hr => ?_) 0)
  have h1:=h r hr
  have h2:ras m (fun _ _ => 0) r = 0:=sN_zero m
  omega
theorem sN_one2 {f:Nat → Nat} {c j:Nat}:∀ {n:Nat},c ≤ j → j < n → sN c f + f j ≤ sN n f
 | n + 1,hc,hj => by
  show _ ≤ sN n f + f n
  by_cases e:j = n
  ·subst e; have:=sN_upto (f:=f) (l:=c) (n:=j) hc; omega
  have:=sN_one2 (f:=f) (c:=c) (j:=j) (n:=n) hc (by omega); omega
theorem pB_congr {f g:Nat → Nat}:∀ {n:Nat},(∀ r,r < n → f r = g r) → pB n f = pB n g
  | 0,_ => rfl
  | n + 1,h => by show pB n f * (f n + 1) = pB n g * (g n + 1); rw [pB_congr fun r hr => h r (by omega),h n (by omega)]
theorem mn_pow {n c i j:Nat} {M:Nat → Nat → Int} {V:Nat → Nat} (hV:∀ r,r < n → ras n M r < 4294967296 ^ V r) (hc:c ≤ i) (hi:i < n) (hcj:c ≤ j) (hj:j < n):(mn M c i j).natAbs ≤ 4294967296 ^ sN n V:=by
 have h1:(mn M c i j).natAbs ≤ pB (c + 1) fun r => ras n M (if r < c then r else i):=dt_pB fun r hr => by
  refine Nat.le_trans (Nat.le_of_eq ?_) (sN_one2 (f:=fun s => (M (if r < c then r else i) s).natAbs) hcj hj)
  show sN c (fun s => (M (if r < c then r else i) (if s < c then s else j)).natAbs) + (M (if r < c then r else i) (if c < c then c else j)).natAbs = _
  rw [if_neg (Nat.lt_irrefl c)]
  congr 1
  exact sN_congr fun s hs => by rw [if_pos hs]
 refine Nat.le_trans h1 ?_
 show pB c (fun r => ras n M (if r < c then r else i)) * (ras n M (if c < c then c else i) + 1) ≤ _
 rw [if_neg (Nat.lt_irrefl c),pB_congr (g:=ras n M) fun r hr => by rw [if_pos hr]]
 refine Nat.le_trans (Nat.mul_le_mul (pB_pow fun r hr => hV r (by omega)) (hV i hi)) ?_
 rw [← Nat.pow_add]
 exact Nat.pow_le_pow_right (by decide) (sN_one2 hc hi)
theorem lead_pow {n c:Nat} {M:Nat → Nat → Int} {V:Nat → Nat} (hV:∀ r,r < n → ras n M r < 4294967296 ^ V r) (hc:c ≤ n):(dt c M).natAbs ≤ 4294967296 ^ sN n V:=by
  refine Nat.le_trans (dt_pB (f:=ras n M) fun r hr => sN_upto hc) (Nat.le_trans (pB_pow fun r hr => hV r (by omega)) (Nat.pow_le_pow_right (by decide) (sN_upto hc)))
theorem wdS {z:Int} {S:Nat} (hS:S ≤ 1048700) (h:z.natAbs ≤ 4294967296 ^ S):Wd z 1048704 :=
  Nat.le_trans (ll_le (k:=S + 1) (Nat.lt_of_le_of_lt h (Nat.pow_lt_pow_right (by decide) (by omega)))) (by omega)
open Go.RowKit
def eP (V:List (List (Int × Int))) (i k:Nat):Int × Int:=(V.getD i []).getD k (0,1)
theorem getQ_of {V:List (List (Int × Int))} {i:Nat} {r:List (Int × Int)} (h:V[i]? = some r):V.getD i [] = r:=by simp [List.getD,h]
theorem get_qT {V:List (List (Int × Int))} {i:Nat} (h:i < V.length):V[i]? = some (V.getD i []):=by simp [List.getD,h]
structure FilP (V:List (List (Int × Int))) (n c i k:Nat) (f g:Nat → Nat → Int × Int):Prop where
  len:V.length = n
  row:∀ L ∈ V,L.length = c
  ent:∀ l m,l < n → m < c → eP V l m = if l < i ∨ (l = i ∧ m < k) then f l m else g l m
theorem FilP.el {V:List (List (Int × Int))} {n c i k l:Nat} {f g:Nat → Nat → Int × Int} (h:FilP V n c i k f g) (hi:i < n) (hl:l < c) (hk:k ≤ l):eP V i l = g i l:=by
  rw [h.ent i l hi hl,if_neg (by omega)]
theorem FilP.rlen {V:List (List (Int × Int))} {n c i k l:Nat} {f g:Nat → Nat → Int × Int} (h:FilP V n c i k f g) (hl:l < n):(V.getD l []).length = c :=
  h.row _ (List.mem_of_getElem? (get_qT (by rw [h.len]; exact hl)))
theorem eP_set {V:List (List (Int × Int))} {n c i k l m:Nat} {z:Int × Int} (h1:V.length = n) (h2:∀ L ∈ V,L.length = c) (hi:i < n) (hk:k < c):eP (V.set i ((V.getD i []).set k z)) l m = if l = i ∧ m = k then z else eP V l m:=by
 have hl:=h2 _ (List.mem_of_getElem? (get_qT (V:=V) (i:=i) (by omega)))
 unfold eP
 by_cases e:l = i
 ·subst e
  rw [show (V.set l ((V.getD l []).set k z)).getD l [] = (V.getD l []).set k z by simp [List.getD,show l < V.length by omega]]
  by_cases e2:m = k
  ·subst e2; rw [if_pos ⟨rfl,rfl⟩]; simp only [List.getD_eq_getElem?_getD] at *; simp [hl,hk]
  rw [if_neg (by omega)]; simp only [List.getD_eq_getElem?_getD]; rw [List.getElem?_set_ne (Ne.symm e2)]
 rw [if_neg (by omega),show (V.set i ((V.getD i []).set k z)).getD l [] = V.getD l [] by simp only [List.getD_eq_getElem?_getD]; rw [List.getElem?_set_ne (Ne.symm e)]]
theorem FilP.put {V:List (List (Int × Int))} {n c i k:Nat} {f g g':Nat → Nat → Int × Int} {z:Int × Int} (h:FilP V n c i k f g) (hi:i < n) (hk:k < c) (hz:z = g' i k) (hg:∀ l m, ¬(l = i ∧ m = k) → g' l m = g l m):FilP (V.set i ((V.getD i []).set k z)) n c i k f g':=by
 refine ⟨by rw [List.length_set]; exact h.len,fun L hL => ?_,fun l m hl hm => ?_⟩
 ·rcases List.mem_or_eq_of_mem_set hL with h1 | h1
  ·exact h.row L h1
  rw [h1,List.length_set]; exact h.rlen hi
 rw [eP_set h.len h.row hi hk]
 by_cases e:l = i ∧ m = k
 ·rw [if_pos e,if_neg (by omega),e.1,e.2]; exact hz
 rw [if_neg e,h.ent l m hl hm]; split
 ·rfl
 exact (hg l m e).symm
theorem FilP.adv {V:List (List (Int × Int))} {n c i k:Nat} {f g:Nat → Nat → Int × Int} (h:FilP V n c i k f g) (he:f i k = g i k):FilP V n c i (k + 1) f g:=by
 refine ⟨h.len,h.row,fun l m hl hm => ?_⟩
 rw [h.ent l m hl hm]
 by_cases e:l = i ∧ m = k
 ·rw [if_neg (by omega),if_pos (by omega),e.1,e.2]; exact he.symm
 by_cases e2:l < i ∨ l = i ∧ m < k
 ·rw [if_pos e2,if_pos (by omega)]
 rw [if_neg e2,if_neg (by omega)]
theorem FilP.same {V:List (List (Int × Int))} {n c i k:Nat} {f g g':Nat → Nat → Int × Int} (h:FilP V n c i k f g) (hg:∀ l m,l < n → m < c → (i < l ∨ (l = i ∧ k ≤ m)) → g' l m = g l m):FilP V n c i k f g':=by
  refine ⟨h.len,h.row,fun l m hl hm => ?_⟩
  rw [h.ent l m hl hm]
  by_cases e2:l < i ∨ l = i ∧ m < k
  · rw [if_pos e2,if_pos e2]
  rw [if_neg e2,if_neg e2]; exact (hg l m hl hm (by omega)).symm
theorem FilP.fill {V:List (List (Int × Int))} {n c i k:Nat} {f g:Nat → Nat → Int × Int} {z:Int × Int} (h:FilP V n c i k f g) (hi:i < n) (hk:k < c) (hz:z = f i k):FilP (V.set i ((V.getD i []).set k z)) n c i (k + 1) f g:=by
  have h0:FilP (V.set i ((V.getD i []).set k z)) n c i k f (fun l m => if l = i ∧ m = k then f i k else g l m):=h.put hi hk (by rw [if_pos ⟨rfl,rfl⟩]; exact hz) fun l m e => by rw [if_neg e]
  have h1:FilP (V.set i ((V.getD i []).set k z)) n c i (k + 1) f (fun l m => if l = i ∧ m = k then f i k else g l m):=h0.adv (by rw [if_pos ⟨rfl,rfl⟩])
  exact h1.same fun l m _ _ e => by rw [if_neg (by omega)]
theorem FilP.nxt {V:List (List (Int × Int))} {n c i k:Nat} {f g:Nat → Nat → Int × Int} (h:FilP V n c i k f g) (hk:k = c):FilP V n c (i + 1) 0 f g:=by
  subst hk
  refine ⟨h.len,h.row,fun l m hl hm => ?_⟩
  rw [h.ent l m hl hm]
  by_cases e2:l < i ∨ l = i ∧ m < k
  · rw [if_pos e2,if_pos (by omega)]
  rw [if_neg e2,if_neg (by omega)]
theorem fq_row {T:List Fw} {TT:List (List (Int × Int))} {i:Nat} {p:Option Addr} {c:Nat} {L:List Fq} (h:ftv T = TT) (hi:T[i]? = some ⟨p,c,L⟩):TT.getD i [] = fqv L:=by rw [← h]; exact getQ_of (ftv_get hi)
theorem fq_len {T:List Fw} {TT:List (List (Int × Int))} {i d:Nat} {p:Option Addr} {c:Nat} {L:List Fq} (h:ftv T = TT) (hr:∀ L ∈ TT,L.length = d) (hi:T[i]? = some ⟨p,c,L⟩):L.length = d:=by
  rw [← fqv_len]; exact hr _ (by rw [← h]; exact List.mem_of_getElem? (ftv_get hi))
theorem fq_el {T:List Fw} {TT:List (List (Int × Int))} {i k:Nat} {p:Option Addr} {c:Nat} {L:List Fq} {e:Fq} (h:ftv T = TT) (hi:T[i]? = some ⟨p,c,L⟩) (hk:L[k]? = some e):(e.z,e.y) = eP TT i k:=by
  unfold eP; rw [fq_row h hi]; simp [List.getD,fqv_get hk]
theorem fq_put {T:List Fw} {TT:List (List (Int × Int))} {i k:Nat} {p p':Option Addr} {c c':Nat} {L:List Fq} {e:Fq} (h:ftv T = TT) (hi:T[i]? = some ⟨p,c,L⟩):ftv (T.set i ⟨p',c',L.set k e⟩) = TT.set i ((TT.getD i []).set k (e.z,e.y)):=by
  rw [ftv_set,fqv_set,h,fq_row h hi]
structure DS (n:Nat) (N M:Nat → Nat → Int) (V:Nat → Nat) (S c:Nat) (s:Int):Prop where
  sgn:s = 1 ∨ s = -1
  det:s * dt n M = dt n N
  lead:dt c M ≠ 0
  wV:∀ r,r < n → ras n M r < 4294967296 ^ V r
  sum:sN n V = S
def eqq (M:Nat → Nat → Int) (c i j:Nat):Int × Int:=(RN (mn M c i j) (dt c M),RD (mn M c i j) (dt c M))
def eq2 (M:Nat → Nat → Int) (c l m:Nat):Int × Int:=(RN (mn M c c c * mn M c l m - mn M c l c * mn M c c m) (dt c M * mn M c c c),RD (mn M c c c * mn M c l m - mn M c l c * mn M c c m) (dt c M * mn M c c c))
theorem DS.swap {n c k S:Nat} {N M:Nat → Nat → Int} {V:Nat → Nat} {s:Int} (h:DS n N M V S c s) (hc:c < k) (hk:k < n):DS n N (swM M c k) (fun r => V (tr c k r)) S c (-s):=by
  refine ⟨by rcases h.sgn with e | e <;> omega,?_,by rw [swM_lead (by omega)]; exact h.lead,fun r hr => h.wV _ (tr_lt (by omega) hk hr),by rw [sN_tr (by omega) hk]; exact h.sum⟩
  rw [swM_dt (by omega) hk (by omega),Int.neg_mul_neg]; exact h.det
theorem eqq_swap {c k i j:Nat} {M:Nat → Nat → Int} (hc:c ≤ k):eqq (swM M c k) c i j = eqq M c (tr c k i) j:=by unfold eqq; rw [swM_mn hc,swM_lead hc]
theorem DS.step {n c S:Nat} {N M:Nat → Nat → Int} {V:Nat → Nat} {s:Int} (h:DS n N M V S c s) (h1:mn M c c c ≠ 0):DS n N M V S (c + 1) s:=⟨h.sgn,h.det,by rw [← mn_lead]; exact h1,h.wV,h.sum⟩
theorem eqq_step {c l m:Nat} {M:Nat → Nat → Int} (h0:dt c M ≠ 0) (h1:mn M c c c ≠ 0):eq2 M c l m = eqq M (c + 1) l m:=by
  obtain ⟨e1,e2⟩:=fr_step (l:=l) (m:=m) h0 h1
  unfold eq2 eqq; rw [e1,e2]
theorem DS.none {n c S:Nat} {N M:Nat → Nat → Int} {V:Nat → Nat} {s:Int} (h:DS n N M V S c s) (hc:c < n) (h1:∀ i,c ≤ i → i < n → (eqq M c i c).1 = 0):dt n N = 0:=by
  rw [← h.det,dt_none hc h.lead fun i hi hn => (RN_zero h.lead).1 (h1 i hi hn),Int.mul_zero]
theorem DS.start {n S:Nat} {N:Nat → Nat → Int} {V:Nat → Nat} (hV:∀ r,r < n → ras n N r < 4294967296 ^ V r) (hS:sN n V = S):DS n N N V S 0 1:=⟨.inl rfl,Int.one_mul _,(by decide:(1:Int) ≠ 0),hV,hS⟩
theorem eqq_start {i j:Nat} {N:Nat → Nat → Int}:eqq N 0 i j = (N i j,1):=by
  have e:mn N 0 i j = N i j:=by show 0 + 1 * N i j * 1 = _; omega
  unfold eqq; rw [e,show dt 0 N = 1 from rfl,RN_one,RD_one]
theorem DS.wmn {n c S i j:Nat} {N M:Nat → Nat → Int} {V:Nat → Nat} {s:Int} (h:DS n N M V S c s) (hS:S ≤ 1048700) (hi:c ≤ i) (hin:i < n) (hj:c ≤ j) (hjn:j < n):Wd (mn M c i j) 1048704:=wdS hS (by rw [← h.sum]; exact mn_pow h.wV hi hin hj hjn)
theorem DS.wld {n c S:Nat} {N M:Nat → Nat → Int} {V:Nat → Nat} {s:Int} (h:DS n N M V S c s) (hS:S ≤ 1048700) (hc:c ≤ n):Wd (dt c M) 1048704:=wdS hS (by rw [← h.sum]; exact lead_pow h.wV hc)
theorem DS.wen {n c S i j:Nat} {N M:Nat → Nat → Int} {V:Nat → Nat} {s:Int} (h:DS n N M V S c s) (hS:S ≤ 1048700) (hi:c ≤ i) (hin:i < n) (hj:c ≤ j) (hjn:j < n):Wd (eqq M c i j).1 1048704 ∧ Wd (eqq M c i j).2 1048704 :=
  ⟨Nat.le_trans (ll_mono (RN_abs _ _)) (h.wmn hS hi hin hj hjn),Nat.le_trans (ll_mono (RD_abs _ _)) (h.wld hS (by omega))⟩
open Go.RowKit
def rwq (z:Int):RawR:=((ng z,lim z.natAbs),(ng 1,lim (1:Int).natAbs))
def TLb (w:World) (p:Option Addr) (n:Nat) (T:List (List Int)) (K:Nat):Prop:=T.length = n ∧ n ≤ 1048576 ∧ ∀ (i:Nat) (L:List Int),T[i]? = some L → ∃ b off q c,p = some ⟨b,off,none⟩ ∧ (∀ j v,[Value.slice q L.length c][j]? = some v → w.cell? ⟨b,off + i * 1 + j,none⟩ = some v) ∧ RL w q L.length (L.map rwq) K
theorem TLb.at {w w':World} {R:List Res} {p:Option Addr} {n K:Nat} {T:List (List Int)} (h:TLb w p n T K) (hS:Sep w R w'):TLb w' p n T K:=by
  refine ⟨h.1,h.2.1,fun i L hL => ?_⟩
  obtain ⟨b,off,q,c,hp,hc,hs⟩:=h.2.2 i L hL
  exact ⟨b,off,q,c,hp,fun j v hj => hS.cellAt (hc j v hj),hs.at hS⟩
theorem iq_rl {w:World} {t:TypeId} {p:Option Addr} {c K:Nat} {L:List Iq} (h:(Res.lst t 4 p L.length c (iqs L)).holds w) (hW:∀ z ∈ izs L,Wd z K) (hK:2 ≤ K) (hn:L.length ≤ 1048576):RL w p L.length ((izs L).map rwq) K:=by
 refine ⟨by rw [List.length_map,izs_len],hn,fun i e he => ?_⟩
 rw [List.getElem?_map] at he
 rcases hL:(izs L)[i]? with _ | z
 ·rw [hL] at he; cases he
 rw [hL] at he
 simp only [Option.map_some,Option.some.injEq] at he
 subst he
 have hiL:i < L.length:=by rw [← izs_len]; exact (List.getElem?_eq_some_iff.1 hL).1
 obtain ⟨g,h1,h2,h3⟩:=lst_cell h (iqs_get (List.getElem?_eq_getElem hiL)) (by decide)
 have hz:L[i].z = z:=by
  have:=izs_get (List.getElem?_eq_getElem hiL)
  rw [this] at hL; exact Option.some.inj hL
 have f1:Fr 0 w L[i].p L[i].n L[i].c (lim L[i].z.natAbs):=h3 _ List.mem_cons_self
 have f2:Fr 0 w L[i].q L[i].m L[i].d (lim (1:Int).natAbs):=h3 _ (List.mem_cons_of_mem _ List.mem_cons_self)
 have hw:=hW z (List.mem_of_getElem? hL)
 rw [hz] at f1
 refine ⟨g,0,_,_,_,_,_,_,h1,fun j v hj => h2 j v ?_,f1.sl,f2.sl,?_,?_⟩
 ·rw [← hj]; show (iqE L[i]).cs[j]? = _; unfold iqE rwq; rw [hz]
 ·rw [f1.sl.lln]; exact hw
 rw [f2.sl.lln]; exact Nat.le_trans wd1 hK
theorem Sep.itl {w0 w:World} {R:List Res} (hS:Sep w0 R w) (k:Nat) {t:TypeId} {p:Option Addr} {n c K:Nat} {T:List Ir} (hk:R[k]? = some (.lst t 1 p n c (itE T))) (hW:TW (itv T) K) (hK:2 ≤ K) (hn:n ≤ 1048576) (hb:∀ L ∈ itv T,L.length ≤ 1048576):TLb w p n (itv T) K:=by
 have hl:=hS.lstLen k hk
 rw [itE_len] at hl
 refine ⟨by rw [itv_len]; exact hl,hn,fun i L hL => ?_⟩
 unfold itv at hL
 rw [List.getElem?_map] at hL
 rcases hr:T[i]? with _ | r
 ·rw [hr] at hL; cases hL
 rw [hr] at hL
 simp only [Option.map_some,Option.some.injEq] at hL
 subst hL
 have hm:izs r.L ∈ itv T:=List.mem_map.2 ⟨r,List.mem_of_getElem? hr,rfl⟩
 obtain ⟨g,h1,h2,h3⟩:=hS.irow k hk hr
 refine ⟨g,0,r.p,r.c,h1,fun j v hj => h2 j v (by rw [izs_len] at hj; exact hj),?_⟩
 rw [izs_len]
 exact iq_rl h3 (fun z hz => hW _ hm z hz) hK (by have:=hb _ hm; rwa [izs_len] at this)
theorem qls_fqs {L:List Int} {m:Nat} {es:List El} (h:QEls (L.map rwq) m es) (he:es.length = m) (hl:L.length = m):∃ Q:List Fq,es = fqs Q ∧ fqv Q = L.map fun z => (z,1):=by
 have hex:∀ j:Nat, ∃ e:Fq,j < m → es[j]? = some (fqE e) ∧ (e.z,e.y) = (L.getD j 0,1):=fun j => by
  by_cases hj:j < m
  ·have hLj:(L.map rwq)[j]? = some (rwq (L.getD j 0)):=by rw [List.getElem?_map,List.getElem?_eq_getElem (by omega)]; simp [List.getD,show j < L.length by omega]
   obtain ⟨p,n,c,q,k,d,h1⟩:=h j _ hj hLj
   exact ⟨⟨p,n,c,q,k,d,L.getD j 0,1⟩,fun _ => ⟨h1,rfl⟩⟩
  exact ⟨⟨none,0,0,none,0,0,0,1⟩,fun h => absurd h hj⟩
 obtain ⟨e,hE⟩:=Classical.axiomOfChoice hex
 refine ⟨(List.range m).map e,?_,?_⟩
 ·apply List.ext_getElem?
  intro j
  by_cases hj:j < m
  ·rw [(hE j hj).1]; unfold fqs; rw [List.getElem?_map,List.getElem?_map,List.getElem?_range hj]; rfl
  rw [List.getElem?_eq_none (by omega),List.getElem?_eq_none (by simp [fqs]; omega)]
 apply List.ext_getElem?
 intro j
 unfold fqv
 by_cases hj:j < m
 ·rw [List.getElem?_map,List.getElem?_map,List.getElem?_range hj,List.getElem?_map,List.getElem?_eq_getElem (by omega)]
  show some ((e j).z,(e j).y) = some (L[j],1)
  rw [(hE j hj).2]; simp [List.getD,show j < L.length by omega]
 rw [List.getElem?_eq_none (by simp; omega),List.getElem?_eq_none (by simp; omega)]
end Go.Proofs.YtnlnibngpeempaaGreatDoor
