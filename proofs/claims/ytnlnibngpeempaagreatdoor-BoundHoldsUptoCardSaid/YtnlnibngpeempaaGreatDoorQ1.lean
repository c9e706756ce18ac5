/-
  Contracts and lemmas, joined in one text.
-/
import Derived.Test.YtnlnibngpeempaaGreatDoorCB
import Derived.Test.YtnlnibngpeempaaGreatDoorQA
import Derived.Test.YtnlnibngpeempaaGreatDoorRF
set_option linter.unusedVariables false
set_option linter.unusedSimpArgs false
/-
  Tables of whole fractions of one's own: rows of fractions whose denominators are 1.
-/
namespace Go.Proofs.YtnlnibngpeempaaGreatDoor
open Go.RowKit
structure Iq where
  p:Option Addr
  n:Nat
  c:Nat
  q:Option Addr
  m:Nat
  d:Nat
  z:Int
def iqC (e:Iq):List Value:=[.bool (ng e.z),.slice e.p e.n e.c,.bool (ng 1),.slice e.q e.m e.d]
def iqE (e:Iq):El:=⟨[.bool (ng e.z),.slice e.p e.n e.c,.bool (ng 1),.slice e.q e.m e.d],[.rowm e.p e.n e.c (lim e.z.natAbs),.rowm e.q e.m e.d (lim (1:Int).natAbs)]⟩
def iqs (L:List Iq):List El:=L.map iqE
def izs (L:List Iq):List Int:=L.map Iq.z
structure Ir where
  p:Option Addr
  c:Nat
  L:List Iq
def irE (r:Ir):El:=⟨[.slice r.p r.L.length r.c],[.lst 43 4 r.p r.L.length r.c (iqs r.L)]⟩
def itE (T:List Ir):List El:=T.map irE
def itv (T:List Ir):List (List Int):=T.map fun r => izs r.L
theorem iqs_len (L:List Iq):(iqs L).length = L.length:=List.length_map _
theorem izs_len (L:List Iq):(izs L).length = L.length:=List.length_map _
theorem itE_len (T:List Ir):(itE T).length = T.length:=List.length_map _
theorem itv_len (T:List Ir):(itv T).length = T.length:=List.length_map _
theorem iqs_get {L:List Iq} {i:Nat} {e:Iq} (h:L[i]? = some e):(iqs L)[i]? = some (iqE e):=by simp [iqs,h]
theorem izs_get {L:List Iq} {i:Nat} {e:Iq} (h:L[i]? = some e):(izs L)[i]? = some e.z:=by simp [izs,h]
theorem itE_get {T:List Ir} {i:Nat} {r:Ir} (h:T[i]? = some r):(itE T)[i]? = some (irE r):=by simp [itE,h]
theorem itv_get {T:List Ir} {i:Nat} {r:Ir} (h:T[i]? = some r):(itv T)[i]? = some (izs r.L):=by simp [itv,h]
theorem iqs_set (L:List Iq) (i:Nat) (e:Iq):(iqs L).set i (iqE e) = iqs (L.set i e):=by unfold iqs; rw [List.map_set]
theorem izs_set (L:List Iq) (i:Nat) (e:Iq):izs (L.set i e) = (izs L).set i e.z:=by unfold izs; rw [List.map_set]
theorem itv_set (T:List Ir) (i:Nat) (r:Ir):itv (T.set i r) = (itv T).set i (izs r.L):=by unfold itv; rw [List.map_set]
theorem it_snoc {T:List Ir} {p:Option Addr} {n c:Nat} {L:List Iq} (h:L.length = n):itE T ++ [⟨[.slice p n c],[.lst 43 4 p n c (iqs L)]⟩] = itE (T ++ [⟨p,c,L⟩]):=by subst h; simp [itE,irE]
theorem itv_snoc (T:List Ir) (r:Ir):itv (T ++ [r]) = itv T ++ [izs r.L]:=by simp [itv]
theorem lst_cell {w:World} {e:TypeId} {sz n c:Nat} {p:Option Addr} {es:List El} (h:(Res.lst e sz p n c es).holds w) {i:Nat} {el:El} (hi:es[i]? = some el) (hs:0 < sz) :
  ∃ g,p = some ⟨g,0,none⟩ ∧ (∀ j v,el.cs[j]? = some v → w.cell? ⟨g,0 + i * sz + j,none⟩ = some v) ∧ ∀ r ∈ el.rs,r.holds w:=by
 obtain ⟨h1,h2,h3,h4⟩:=h
 have hin:i < es.length:=(List.getElem?_eq_some_iff.1 hi).1
 have ho:=h3 _ List.mem_cons_self
 have hp:∃ g,p = some ⟨g,0,none⟩:=by
  rcases ho.2 with ⟨_,h0⟩ | ⟨g,_,_,hg,_⟩
  ·omega
  simp only [Value.slice.injEq] at hg; exact ⟨g,hg.1⟩
 obtain ⟨g,rfl⟩:=hp
 refine ⟨g,rfl,fun j v hj => ?_,fun r hr => h3 r (List.mem_cons_of_mem _ (List.mem_flatMap.2 ⟨el,List.mem_of_getElem? hi,hr⟩))⟩
 have hjs:j < sz:=by
  have:=(h1 el (List.mem_of_getElem? hi)).1
  have:=(List.getElem?_eq_some_iff.1 hj).1
  omega
 have hc:=h1.cell hi j hjs
 rw [hj] at hc
 have:=ho.cells (g:=g) rfl (i * sz + j) v hc
 rw [Addr.add_mid] at this
 rw [← this,Nat.zero_add]
 simp
theorem wd1:Wd 1 2:=Wd.i64 (by omega) (by omega)
theorem ir_cell {w:World} {t:TypeId} {p:Option Addr} {c i:Nat} {L:List Iq} {e:Iq} (h:(Res.lst t 4 p L.length c (iqs L)).holds w) (hi:L[i]? = some e) :
  ∃ g,p = some ⟨g,0,none⟩ ∧ (∀ j v,(iqC e)[j]? = some v → w.cell? ⟨g,0 + i * 4 + j,none⟩ = some v) ∧ (∀ K,Wd e.z K → Zr w (ng e.z) e.p e.n e.c e.z K) ∧ Zr w (ng 1) e.q e.m e.d 1 2:=by
 obtain ⟨g,h1,h2,h3⟩:=lst_cell h (iqs_get hi) (by decide)
 refine ⟨g,h1,h2,fun K hK => ?_,?_⟩
 ·have hf:Fr 0 w e.p e.n e.c (lim e.z.natAbs):=h3 _ List.mem_cons_self
  exact hf.sl.zr hK
 have hf:Fr 0 w e.q e.m e.d (lim (1:Int).natAbs):=h3 _ (List.mem_cons_of_mem _ List.mem_cons_self)
 exact hf.sl.zr wd1
def TW (T:List (List Int)) (K:Nat):Prop := ∀ L ∈ T, ∀ z ∈ L,Wd z K
def RTb (w:World) (p:Option Addr) (n:Nat) (T:List (List Int)) (K:Nat):Prop:=T.length = n ∧ n ≤ 1048576 ∧ ∀ (i:Nat) (L:List Int),T[i]? = some L → ∃ b off q c,p = some ⟨b,off,none⟩ ∧ (∀ j v,[Value.slice q L.length c][j]? = some v → w.cell? ⟨b,off + i * 1 + j,none⟩ = some v) ∧ Rs w q L.length (L.map fun z => (z,1)) K
theorem RTb.at {w w':World} {R:List Res} {p:Option Addr} {n K:Nat} {T:List (List Int)} (h:RTb w p n T K) (hS:Sep w R w'):RTb w' p n T K:=by
  refine ⟨h.1,h.2.1,fun i L hL => ?_⟩
  obtain ⟨b,off,q,c,hp,hc,hs⟩:=h.2.2 i L hL
  exact ⟨b,off,q,c,hp,fun j v hj => hS.cellAt (hc j v hj),hs.at hS⟩
theorem ir_rs {w:World} {t:TypeId} {p:Option Addr} {c K:Nat} {L:List Iq} (h:(Res.lst t 4 p L.length c (iqs L)).holds w) (hW:∀ z ∈ izs L,Wd z K) (hK:2 ≤ K) (hn:L.length ≤ 1048576):Rs w p L.length ((izs L).map fun z => (z,1)) K:=by
  refine ⟨by rw [List.length_map,izs_len],hn,fun i e he => ?_⟩
  rw [List.getElem?_map] at he
  obtain ⟨z,hz,rfl⟩:=Option.map_eq_some_iff.1 he
  unfold izs at hz
  rw [List.getElem?_map] at hz
  obtain ⟨q,hq,rfl⟩:=Option.map_eq_some_iff.1 hz
  obtain ⟨g,h1,h2,h3,h4⟩:=ir_cell h hq
  exact ⟨g,0,_,_,_,_,_,_,_,_,h1,h2,h3 K (hW _ (List.mem_of_getElem? (izs_get hq))),h4.mono hK⟩
theorem Sep.irow {w0 w:World} {R:List Res} (hS:Sep w0 R w) (k:Nat) {t:TypeId} {p:Option Addr} {n c i:Nat} {T:List Ir} {r:Ir} (hk:R[k]? = some (.lst t 1 p n c (itE T))) (hi:T[i]? = some r) :
  ∃ g,p = some ⟨g,0,none⟩ ∧ (∀ j v,[Value.slice r.p r.L.length r.c][j]? = some v → w.cell? ⟨g,0 + i * 1 + j,none⟩ = some v) ∧ (Res.lst 43 4 r.p r.L.length r.c (iqs r.L)).holds w:=by
 obtain ⟨g,h1,h2,h3⟩:=lst_cell (show (Res.lst t 1 p n c (itE T)).holds w from hS.get k hk) (itE_get hi) (by decide)
 exact ⟨g,h1,h2,h3 _ List.mem_cons_self⟩
theorem Sep.itb {w0 w:World} {R:List Res} (hS:Sep w0 R w) (k:Nat) {t:TypeId} {p:Option Addr} {n c K:Nat} {T:List Ir} (hk:R[k]? = some (.lst t 1 p n c (itE T))) (hW:TW (itv T) K) (hK:2 ≤ K) (hn:n ≤ 1048576) (hb:∀ L ∈ itv T,L.length ≤ 1048576):RTb w p n (itv T) K:=by
  have hl:=hS.lstLen k hk
  rw [itE_len] at hl
  refine ⟨by rw [itv_len]; exact hl,hn,fun i L hL => ?_⟩
  unfold itv at hL
  rw [List.getElem?_map] at hL
  obtain ⟨r,hr,rfl⟩:=Option.map_eq_some_iff.1 hL
  have hm:izs r.L ∈ itv T:=List.mem_of_getElem? (itv_get hr)
  obtain ⟨g,h1,h2,h3⟩:=hS.irow k hk hr
  refine ⟨g,0,r.p,r.c,h1,by rw [izs_len]; exact h2,?_⟩
  rw [izs_len]
  exact ir_rs h3 (hW _ hm) hK (by have:=hb _ hm; rwa [izs_len] at this)
def IQt (n:Nat) (TT:List (List Int)):Tell:=fun v r => ∃ (pp:Option Addr) (c:Nat) (T:List Ir),itv T = TT ∧ v = .slice pp n c ∧ r = [.lst 39 1 pp n c (itE T)]
def MTt (n:Nat) (T:List (List Int)) (K:Nat):Tell:=fun v r => ∃ (pd:Option Addr) (nd' cd:Nat) (ps:Option Addr) (cs:Nat) (rs:List Res),v = .agg #[.bool (ng 1),.slice pd nd' cd,.slice ps n cs] ∧ r = [.row pd nd' cd (lim (1:Int).natAbs),.pack rs] ∧ ∀ w,(Res.pack rs).holds w → TB w ps n T K
section
variable {x u:Int} {bA bB bC bD:Bool} {qA qB qC qD:Option Addr} {nA kA nB kB nC kC nD kD:Nat} {w:World}
theorem wiadd (hA:Zr w bA qA nA kA x 16777216) (hB:Zr w bB qB nB kB 1 16777216) (hC:Zr w bC qC nC kC u 16777216) (hD:Zr w bD qD nD kD 1 16777216):Calls Tryz.prog 64 #[.agg #[.bool bA,.slice qA nA kA,.bool bB,.slice qB nB kB],.agg #[.bool bC,.slice qC nC kC,.bool bD,.slice qD nD kD]] w (Ret (Rrt (x + u) 1) w) :=
  wsadd hA hB hC hD (by omega) (by omega) (by rw [Int.mul_one,Int.mul_one,Int.mul_one]; exact RN_one _) (by rw [Int.mul_one]; exact RD_one _)
theorem wimul (hA:Zr w bA qA nA kA x 16777216) (hB:Zr w bB qB nB kB 1 16777216) (hC:Zr w bC qC nC kC u 16777216) (hD:Zr w bD qD nD kD 1 16777216):Calls Tryz.prog 51 #[.agg #[.bool bA,.slice qA nA kA,.bool bB,.slice qB nB kB],.agg #[.bool bC,.slice qC nC kC,.bool bD,.slice qD nD kD]] w (Ret (Rrt (x * u) 1) w) :=
  wsmul hA hB hC hD (by omega) (by omega) (by rw [Int.mul_one]; exact RN_one _) (by rw [Int.mul_one]; exact RD_one _)
theorem wimake (hA:Zr w bA qA nA kA x 67108864) (hB:Zr w bB qB nB kB 1 67108864):Calls Tryz.prog 54 #[.agg #[.bool bA,.slice qA nA kA],.agg #[.bool bB,.slice qB nB kB]] w (Ret (Rrt x 1) w) :=
  wsmake hA hB (by omega) (RN_one _) (RD_one _)
end
open Go.RowKit
section
variable {P:Program} {o:Oper} {n:Nat} {f:Nat → Value} {w w0:World} {R:List Res} {K:Act → World → Prop} {Q':Exit → Act → World → Prop} {d:Nat}
theorem oappendC {t e:TypeId} {x y:Operand} {z:Value} {sz by':Nat} {p:Option Addr} {a:Addr} {m c k c2:Nat} {es:List El} (es2:List El)
  (hS:Sep w0 (.lst e sz p m c es :: R) w) (hop:o.op = .call { callee:=.builtin .append,args:=#[x,y],argTypes:=#[t,t] }) (ho:o.dst = some d) (ht:P.underlying t = some (.slice e)) (hi:(P.info? e).map (fun i => (i.zero,i.size,i.bytes)) = some (some z,sz,by')) (hzs:z.cells.size = sz) (hsz:0 < sz)
  (hx:(act n f).eval x = .slice p m c) (hy:(act n f).eval y = .slice (some a) k c2) (hE2:Els sz es2) (hr2:flatR es2 = []) (hl2:es2.length = k) (hnews:∀ j u,(flatC es2)[j]? = some u → w.cell? (a.add j) = some u) (h0:0 < k) (hm:(m + k) * by' ≤ 140737488355328) (hm2:m + k ≤ 1073741824)
  (hK:∀ p' c' w',Sep w0 (.lst e sz p' (m + k) c' (es ++ es2) :: R) w' → K (act n (upd f d (.slice p' (m + k) c'))) w'):OW P o (act n f) w K Q':=by
 rcases hi':P.info? e with _ | i
 ·rw [hi'] at hi; cases hi
 rw [hi'] at hi
 simp only [Option.map_some,Option.some.injEq,Prod.mk.injEq] at hi
 obtain ⟨hi1,hi2,hi3⟩:=hi
 obtain ⟨hE,hle,hS'⟩:=hS.openL
 have hown:=(show (Res.own' e sz p m c (flatC es)).holds w from hS'.holds _ List.mem_cons_self)
 have hcl:(flatC es2).length = k * sz:=by rw [hE2.len,hl2]
 obtain ⟨p',c',w',hrun,ho',hg,hp'⟩:=run_appendAt (P:=P) (w:=w) (ty:=o.type) (c2:=c2) ht hi' hi1 hi2 hi3 hzs hsz hown (a:=a) (k:=k) (news:=flatC es2) hcl hnews (fun u hu => by
  unfold flatC at hu
  obtain ⟨el,hel,hu2⟩:=List.mem_flatMap.1 hu
  exact List.all_eq_true.1 (hE2 el hel).2.1 u hu2) h0 (by simp only [maxLen]; omega) hm
 have hS2:=hS'.grownL hg ho' hp'
 have hfin:Sep w0 (.lst e sz p' (m + k) c' (es ++ es2) :: R) w':=by
  refine Sep.closeL (fun el hel => (List.mem_append.1 hel).elim (hE el) (hE2 el)) (by rw [List.length_append,hle,hl2]) ?_
  rw [flatC_app,flatR_app,hr2,List.append_nil]
  exact hS2
 refine ⟨?_⟩
 have:=hK _ _ _ hfin
 unfold Oper.wp execOp
 simp only [hop,resolve,invoke,builtin,Sem.run_bind,Sem.run_pure,Result.andThen_ok,List.map_toArray,List.map_cons,List.map_nil,hx,hy,hrun]
 show K ((act n f).put o.dst _) w'
 rw [ho,act_put]
 exact this
theorem osliceB {t e:TypeId} {x lo hi mx:Operand} {g m c l h sz:Nat} {p:Option Addr} (hop:o.op = .slice t x (some lo) (some hi) (some mx)) (ho:o.dst = some d) (ht:P.underlying t = some (.slice e)) (hs:∀ w,(sizeOf e).run P w = .ok sz w)
  (hx:(act n f).eval x = .slice p m c) (hp:p = some ⟨g,0,none⟩) (hl:(act n f).eval lo = .int .i64 (l:Int)) (hh:(act n f).eval hi = .int .i64 (h:Int)) (hm:(act n f).eval mx = .int .i64 (h:Int)) (h1:l < h) (h2:h ≤ c)
  (hK:K (act n (upd f d (.slice (some ⟨g,0 + l * sz,none⟩) (h - l) (h - l)))) w):OW P o (act n f) w K Q':=by
 have he:P.elem t = e:=by simp [Program.elem,ht]
 refine oval ho ?_ rfl hK
 have h3:(Instr.slice t (.slice p m c) (some (.int .i64 (l:Int))) (some (.int .i64 (h:Int))) (some (.int .i64 (h:Int)))).run P w = .ok (.slice (some ⟨g,0 + l * sz,none⟩) (h - l) (h - l)) w:=by
  rw [run_slice_lhm w t _ m c (by rw [he]; exact ht) .i64 .i64 .i64 (l:Int) (h:Int) (h:Int) (by omega) (by omega) (by omega) (by omega),he,hs,Result.andThen_ok]
  subst hp
  have e1:((h:Int) - (l:Int)).toNat = h - l:=by omega
  simp only [sliced,Int.toNat_natCast,e1]
  rw [if_neg (by omega),Option.map_some,Addr.add_mid]
 simp [execOp,hop,hx,hl,hh,hm,h3,run_sliceAt_slice w t _ _ _ _ (by rw [he]; exact ht)]
end
open Go.RowKit
def AllQ (w:World) (es:List El) (F:List Int) (K:Nat):Prop:=es.length = F.length ∧ Els 4 es ∧ flatR es = [] ∧ ∀ (i:Nat) (z:Int),F[i]? = some z → ∃ b q n k b2 q2 n2 k2,es[i]? = some ⟨[.bool b,.slice q n k,.bool b2,.slice q2 n2 k2],[]⟩ ∧ Zr w b q n k z K ∧ Zr w b2 q2 n2 k2 1 K
theorem AllQ.nil (w:World) (K:Nat):AllQ w [] [] K:=⟨rfl,Els.nil,rfl,fun i z h => by simp at h⟩
theorem AllQ.app {w:World} {es es2:List El} {F L:List Int} {K:Nat} (h:AllQ w es F K) (h2:AllQ w es2 L K):AllQ w (es ++ es2) (F ++ L) K:=by
 refine ⟨by rw [List.length_append,List.length_append,h.1,h2.1],fun el hel => (List.mem_append.1 hel).elim (h.2.1 el) (h2.2.1 el),by rw [flatR_app,h.2.2.1,h2.2.2.1]; rfl,fun i z hi => ?_⟩
 by_cases e:i < F.length
 ·rw [List.getElem?_append_left e] at hi
  obtain ⟨b,q,n,k,b2,q2,n2,k2,h3,h4⟩:=h.2.2.2 i z hi
  exact ⟨b,q,n,k,b2,q2,n2,k2,by rw [List.getElem?_append_left (by rw [h.1]; exact e)]; exact h3,h4⟩
 rw [List.getElem?_append_right (by omega)] at hi
 obtain ⟨b,q,n,k,b2,q2,n2,k2,h3,h4⟩:=h2.2.2.2 _ z hi
 exact ⟨b,q,n,k,b2,q2,n2,k2,by rw [List.getElem?_append_right (by rw [h.1]; omega),h.1]; exact h3,h4⟩
theorem rs_els {w:World} {g off n K:Nat} {L:List Int} (h:Rs w (some ⟨g,off,none⟩) n (L.map fun z => (z,1)) K):∃ es2,AllQ w es2 L K ∧ ∀ j u,(flatC es2)[j]? = some u → w.cell? ((⟨g,off,none⟩:Addr).add j) = some u:=by
 have hc:∀ i, ∃ cs:List Value, ∀ z,L[i]? = some z → (∃ b q n k b2 q2 n2 k2,cs = [.bool b,.slice q n k,.bool b2,.slice q2 n2 k2] ∧ Zr w b q n k z K ∧ Zr w b2 q2 n2 k2 1 K) ∧ ∀ j v,cs[j]? = some v → w.cell? ⟨g,off + i * 4 + j,none⟩ = some v:=fun i => by
  cases hi:L[i]? with
  | none => exact ⟨[],fun z h => by cases h⟩
  | some z =>
   obtain ⟨g',off',b,q,n',k,b2,q2,n2,k2,hp,h1,h2,h3⟩:=h.2.2 i (z,1) (by rw [List.getElem?_map,hi]; rfl)
   simp only [Option.some.injEq,Addr.mk.injEq,and_true] at hp
   obtain ⟨rfl,rfl⟩:=hp
   refine ⟨[.bool b,.slice q n' k,.bool b2,.slice q2 n2 k2],fun z' hz => ?_⟩
   cases hz
   exact ⟨⟨b,q,n',k,b2,q2,n2,k2,rfl,h2,h3⟩,h1⟩
 obtain ⟨cs,hcs⟩:∃ cs:Nat → List Value, ∀ i z,L[i]? = some z → (∃ b q n k b2 q2 n2 k2,cs i = [.bool b,.slice q n k,.bool b2,.slice q2 n2 k2] ∧ Zr w b q n k z K ∧ Zr w b2 q2 n2 k2 1 K) ∧ ∀ j v,(cs i)[j]? = some v → w.cell? ⟨g,off + i * 4 + j,none⟩ = some v:=Classical.axiomOfChoice hc
 have hget:∀ (i:Nat) (z:Int),L[i]? = some z → ((List.range L.length).map fun i => (El.mk (cs i) []))[i]? = some (El.mk (cs i) []):=fun i z hi => by
  have h9:=(List.getElem?_eq_some_iff.1 hi).1
  rw [List.getElem?_map,List.getElem?_range h9]; rfl
 have hE:Els 4 ((List.range L.length).map fun i => (El.mk (cs i) [])):=fun el hel => by
  obtain ⟨i,hi,rfl⟩:=List.mem_map.1 hel
  obtain ⟨⟨b,q,n',k,b2,q2,n2,k2,e,_⟩,_⟩:=hcs i _ (List.getElem?_eq_getElem (List.mem_range.1 hi))
  refine ⟨by show (cs i).length = 4; rw [e]; rfl,by show (cs i).all _ = true; rw [e]; rfl,fun r hr => by cases hr⟩
 refine ⟨(List.range L.length).map fun i => (El.mk (cs i) []),⟨by simp,hE,?_,fun i z hi => ?_⟩,fun j u hu => ?_⟩
 ·unfold flatR
  rw [List.flatMap_map]
  exact List.flatMap_eq_nil_iff.2 fun _ _ => rfl
 ·obtain ⟨⟨b,q,n',k,b2,q2,n2,k2,e,h1,h2⟩,_⟩:=hcs i z hi
  exact ⟨b,q,n',k,b2,q2,n2,k2,by rw [hget i z hi,e],h1,h2⟩
 have hj:j < L.length * 4:=by
  have:=(List.getElem?_eq_some_iff.1 hu).1
  rw [hE.len] at this; simpa using this
 have hi:j / 4 < L.length:=by omega
 have hz:=List.getElem?_eq_getElem hi
 have h1:=hE.cell (hget _ _ hz) (j % 4) (by omega)
 rw [show j / 4 * 4 + j % 4 = j by omega,hu] at h1
 have h2:=(hcs _ _ hz).2 (j % 4) u h1.symm
 rw [Addr.add_mid,show off + j = off + j / 4 * 4 + j % 4 by omega]
 exact h2
theorem AllQ.rs {w w':World} {R:List Res} (hS:Sep w R w') (k:Nat) {t:TypeId} {p:Option Addr} {m c K:Nat} {es:List El} {F:List Int} (hk:R[k]? = some (.lst t 4 p m c es)) (h:AllQ w es F K) (hm:m ≤ 1048576):Rs w' p m (F.map fun z => (z,1)) K:=by
  have hl:=hS.lstLen k hk
  refine ⟨by rw [List.length_map, ← h.1]; exact hl.symm,hm,fun i e he => ?_⟩
  rw [List.getElem?_map] at he
  obtain ⟨z,hz,rfl⟩:=Option.map_eq_some_iff.1 he
  obtain ⟨b,q,n,k2,b2,q2,n2,k3,h1,h2,h3⟩:=h.2.2.2 i z hz
  obtain ⟨g,h4,h5,_⟩:=hS.lstCell k hk h1 (by decide)
  exact ⟨g,0,b,q,n,k2,b2,q2,n2,k3,h4,h5,h2.at hS,h3.at hS⟩
theorem lows_whole (F:List Int):lows (F.map fun z => (z,1)) = F.map fun z => (z,1):=by
  unfold lows
  rw [List.map_map]
  exact List.map_congr_left fun z _ => by show (RN z 1,RD z 1) = (z,1); rw [RN_one,RD_one]
theorem dens_whole (F:List Int):dens (F.map fun z => (z,1)) = F.map fun _ => 1:=by unfold dens; rw [List.map_map]; rfl
theorem lcm_whole (F:List Int):∀ i,facc lcmZ 1 (dens (lows (F.map fun z => (z,1)))) i = 1:=by
  rw [lows_whole,dens_whole]
  intro i
  unfold facc
  rw [← List.map_take]
  generalize F.take i = G
  induction G with
  | nil => rfl
  | cons a G ih => rw [List.map_cons,List.foldl_cons]; exact ih
theorem wicommon {w:World} {pl:Option Addr} {m cl:Nat} {F:List Int} (hl:Rs w pl m (F.map fun z => (z,1)) 16777216):Calls Tryz.prog 131 #[.slice pl m cl] w (Ret (CQt 1 (fun j => F.getD j 0) m) w):=by
 have h:=wqcommon (cl:=cl) hl (fun e he => by
  obtain ⟨z,_,rfl⟩:=List.mem_map.1 he
  show (1:Int) ≠ 0; omega) (fun i _ => by rw [lcm_whole]; exact wd1.mono (by omega))
 refine h.mono fun e w' ⟨v,r,h1,h2,h3⟩ => ⟨v,r,h1,?_,h3⟩
 rw [lcm_whole] at h2
 obtain ⟨p,n,c,q,d,es,h4,h5,h6⟩:=h2
 refine ⟨p,n,c,q,d,es,⟨h4.1,fun j hj => ?_⟩,h5,h6⟩
 obtain ⟨p',n',c',h7⟩:=h4.2 j hj
 refine ⟨p',n',c',?_⟩
 rw [h7]
 have hjF:j < F.length:=by have:=hl.1; rw [List.length_map] at this; omega
 congr 2
 rw [lows_whole,cnum_at (e:=(F[j],1)) (by rw [List.getElem?_map,List.getElem?_eq_getElem hjF]; rfl)]
 simp [List.getD,List.getElem?_eq_getElem hjF]
def offT (T:List (List Int)) (i:Nat):Nat:=((T.take i).flatten).length
theorem offT_S {T:List (List Int)} {i:Nat} {L:List Int} (h:T[i]? = some L):offT T (i + 1) = offT T i + L.length:=by
  unfold offT; rw [List.take_add_one,h]; simp
theorem flat_S {T:List (List Int)} {i:Nat} {L:List Int} (h:T[i]? = some L):(T.take (i + 1)).flatten = (T.take i).flatten ++ L:=by
  rw [List.take_add_one,h]; simp
theorem offT_le {T:List (List Int)} {b:Nat} (h:∀ L ∈ T,L.length ≤ b):∀ i,offT T i ≤ i * b:=fun i => by
 induction i with
 | zero => simp [offT]
 | succ i ih =>
  cases hi:T[i]? with
  | none => unfold offT at ih ⊢; rw [List.take_add_one,hi]; simp only [Option.toList_none,List.append_nil]; rw [Nat.succ_mul]; omega
  | some L => rw [offT_S hi,Nat.succ_mul]; have:=h L (List.mem_of_getElem? hi); omega
theorem offT_mono {T:List (List Int)} {i j:Nat} (h:i ≤ j):offT T i ≤ offT T j:=by
 obtain ⟨k,rfl⟩:=Nat.exists_eq_add_of_le h
 clear h
 induction k with
 | zero => exact Nat.le_refl _
 | succ k ih =>
  refine Nat.le_trans ih ?_
  cases hi:T[i + k]? with
  | none => unfold offT; rw [show i + (k + 1) = i + k + 1 from rfl,List.take_add_one,hi]; simp
  | some L => rw [show i + (k + 1) = i + k + 1 from rfl,offT_S hi]; omega
theorem offT_all {T:List (List Int)} {n:Nat} (h:T.length = n):offT T n = T.flatten.length:=by unfold offT; rw [List.take_of_length_le (by omega)]
theorem flat_at {T:List (List Int)} {i j:Nat} {L:List Int} {z:Int} (h:T[i]? = some L) (hj:L[j]? = some z):T.flatten[offT T i + j]? = some z:=by
  have hi:=(List.getElem?_eq_some_iff.1 h).1
  have hjl:=(List.getElem?_eq_some_iff.1 hj).1
  have e:T.flatten = (T.take (i + 1)).flatten ++ (T.drop (i + 1)).flatten:=by rw [← List.flatten_append,List.take_append_drop]
  rw [e,List.getElem?_append_left (by rw [flat_S h,List.length_append]; show offT T i + j < offT T i + L.length; omega),flat_S h,List.getElem?_append_right (by show offT T i ≤ _; omega)]
  rw [show offT T i + j - ((T.take i).flatten).length = j from Nat.add_sub_cancel_left ..]
  exact hj
def slE (g:Nat) (T:List (List Int)) (i:Nat):El:=⟨[.slice (some ⟨g,0 + offT T i * 2,none⟩) (T.getD i []).length (T.getD i []).length],[]⟩
def slsE (g:Nat) (T:List (List Int)) (n:Nat):List El:=(List.range n).map (slE g T)
theorem slsE_S (g:Nat) (T:List (List Int)) (n:Nat):slsE g T (n + 1) = slsE g T n ++ [slE g T n]:=by simp [slsE,List.range_succ]
theorem tb_of {w:World} {g m d n cs K:Nat} {t t2:TypeId} {ps:Option Addr} {es:List El} {T:List (List Int)} (hf:(Res.lst t 2 (some ⟨g,0,none⟩) m d es).holds w) (hN:NEls (fun j => T.flatten.getD j 0) m es) (hm:m = T.flatten.length) (hs:(Res.lst t2 1 ps n cs (slsE g T n)).holds w) (hn:T.length = n) (hn2:n ≤ 1048576) (hW:TW T K) (hb:∀ L ∈ T,L.length ≤ 1048576):TB w ps n T K:=by
 refine ⟨hn,hn2,fun i L hL => ?_⟩
 have hi:i < n:=by have:=(List.getElem?_eq_some_iff.1 hL).1; omega
 obtain ⟨gs,h1,h2,_⟩:=lst_cell hs (show (slsE g T n)[i]? = some (slE g T i) by simp [slsE,hi]) (by decide)
 have hg:T.getD i [] = L:=by simp [List.getD,hL]
 refine ⟨gs,0,some ⟨g,0 + offT T i * 2,none⟩,L.length,h1,fun j v hj => h2 j v (by unfold slE; rw [hg]; exact hj),rfl,hb L (List.mem_of_getElem? hL),fun j z hz => ?_⟩
 have hfl:=flat_at hL hz
 have hjm:offT T i + j < m:=by rw [hm]; exact (List.getElem?_eq_some_iff.1 hfl).1
 obtain ⟨p,n',c,he⟩:=hN.2 _ hjm
 obtain ⟨g',h3,h4,h5⟩:=lst_cell hf he (by decide)
 simp only [Option.some.injEq,Addr.mk.injEq,and_true] at h3
 subst h3
 have hzz:T.flatten.getD (offT T i + j) 0 = z:=by simp [List.getD,hfl]
 simp only [hzz] at h4 h5
 have hfr:Fr 0 w p n' c (lim z.natAbs):=h5 _ List.mem_cons_self
 refine ⟨g,0 + offT T i * 2,ng z,p,n',c,rfl,?_,?_,hfr.sl.zr (hW L (List.mem_of_getElem? hL) z (List.mem_of_getElem? hz))⟩
 ·have:=h4 0 _ rfl
  rw [show 0 + offT T i * 2 + j * 2 = 0 + (offT T i + j) * 2 + 0 by omega]
  exact this
 have:=h4 1 _ rfl
 rw [show 0 + offT T i * 2 + j * 2 + 1 = 0 + (offT T i + j) * 2 + 1 by omega]
 exact this
open Go.RowKit
section
variable {w0 w:World} {R:List Res} {t:TypeId} {p pr:Option Addr} {n c cr i j g K:Nat} {T:List Ir} {L:List Iq} {e:Iq}
theorem Sep.irc (hS:Sep w0 R w) (k:Nat) (hk:R[k]? = some (.lst t 1 p n c (itE T))) (hi:T[i]? = some ⟨pr,cr,L⟩) (hp:p = some ⟨g,0,none⟩):w.cell? ⟨g,0 + i * 1,none⟩ = some (.slice pr L.length cr):=by
  obtain ⟨g',h1,h2,_⟩:=hS.irow k hk hi
  rw [hp] at h1
  simp only [Option.some.injEq,Addr.mk.injEq,and_true] at h1
  subst h1
  have:=h2 0 _ rfl
  rwa [Nat.add_zero] at this
theorem Sep.irp (hS:Sep w0 R w) (k:Nat) (hk:R[k]? = some (.lst t 1 p n c (itE T))) (hi:T[i]? = some ⟨pr,cr,L⟩) (h0:0 < L.length):∃ g,pr = some ⟨g,0,none⟩:=by
  obtain ⟨_,_,_,h3⟩:=hS.irow k hk hi
  obtain ⟨g,h4,_⟩:=ir_cell h3 (List.getElem?_eq_getElem h0)
  exact ⟨g,h4⟩
theorem Sep.iec (hS:Sep w0 R w) (k:Nat) (hk:R[k]? = some (.lst t 1 p n c (itE T))) (hi:T[i]? = some ⟨pr,cr,L⟩) (hj:L[j]? = some e) (hp:pr = some ⟨g,0,none⟩):∀ l v,(iqC e)[l]? = some v → w.cell? ⟨g,0 + j * 4 + l,none⟩ = some v:=by
  obtain ⟨_,_,_,h3⟩:=hS.irow k hk hi
  obtain ⟨g',h4,h5,_⟩:=ir_cell h3 hj
  rw [hp] at h4
  simp only [Option.some.injEq,Addr.mk.injEq,and_true] at h4
  subst h4; exact h5
theorem Sep.iez (hS:Sep w0 R w) (k:Nat) (hk:R[k]? = some (.lst t 1 p n c (itE T))) (hi:T[i]? = some ⟨pr,cr,L⟩) (hj:L[j]? = some e) (hw:Wd e.z K):Zr w (ng e.z) e.p e.n e.c e.z K:=by
  obtain ⟨_,_,_,h3⟩:=hS.irow k hk hi
  obtain ⟨_,_,_,h6,_⟩:=ir_cell h3 hj
  exact h6 K hw
theorem Sep.ied (hS:Sep w0 R w) (k:Nat) (hk:R[k]? = some (.lst t 1 p n c (itE T))) (hi:T[i]? = some ⟨pr,cr,L⟩) (hj:L[j]? = some e):Zr w (ng 1) e.q e.m e.d 1 2:=by
  obtain ⟨_,_,_,h3⟩:=hS.irow k hk hi
  obtain ⟨_,_,_,_,h6⟩:=ir_cell h3 hj
  exact h6
theorem Sep.itake {m:Nat} (hS:Sep w0 (.lst t 1 p n c (itE T) :: R) w) (hi:T[i]? = some ⟨pr,cr,L⟩) (hm:L.length = m):Sep w0 (.lst 43 4 pr m cr (iqs L) :: .lst t 1 p n c ((itE T).set i ⟨[.slice pr m cr],[]⟩) :: R) w:=by
  subst hm; exact hS.takeEl (itE_get hi)
theorem Sep.iput {m:Nat} (hS:Sep w0 (.lst 43 4 pr m cr (iqs L) :: .lst t 1 p n c ((itE T).set i ⟨[.slice pr m cr],[]⟩) :: R) w) (hi:i < T.length) (hm:L.length = m):Sep w0 (.lst t 1 p n c (itE (T.set i ⟨pr,cr,L⟩)) :: R) w:=by
  subst hm
  have h:=Sep.putEl (rs:=[.lst 43 4 pr L.length cr (iqs L)]) (i:=i) (cs:=[.slice pr L.length cr]) (es:=(itE T).set i ⟨[.slice pr L.length cr],[]⟩) hS (List.getElem?_set_self (by rw [itE_len]; exact hi)) rfl
  rw [List.set_set] at h
  have e:(itE T).set i ⟨[.slice pr L.length cr],[.lst 43 4 pr L.length cr (iqs L)]⟩ = itE (T.set i ⟨pr,cr,L⟩):=by unfold itE; rw [List.map_set]; rfl
  rwa [e] at h
end
def nilQ:El:=⟨[.bool false,.slice none 0 0,.bool false,.slice none 0 0],[]⟩
theorem fillQ {L:List Iq} {k m:Nat} {e:Iq} (hk:L.length = k):(iqs L ++ List.replicate (m + 1) nilQ).set k (iqE e) = iqs (L ++ [e]) ++ List.replicate m nilQ:=by
  rw [List.set_append_right _ _ (by rw [iqs_len]; omega),iqs_len,hk,Nat.sub_self,List.replicate_succ,List.set_cons_zero]
  unfold iqs; rw [List.map_append,List.append_assoc]; rfl
theorem izs_snoc (L:List Iq) (e:Iq):izs (L ++ [e]) = izs L ++ [e.z]:=by simp [izs]
theorem infoRRow:(Tryz.prog.info? 39).map (fun i => (i.zero,i.size,i.bytes)) = some (some (.slice none 0 0),1,24):=by kernel_rfl
theorem infoIRow:(Tryz.prog.info? 32).map (fun i => (i.zero,i.size,i.bytes)) = some (some (.slice none 0 0),1,24):=by kernel_rfl
def zeroT (r c:Nat):List (List Int):=List.replicate r (List.replicate c 0)
theorem TB.atQ {w w':World} {R:List Res} {p:Option Addr} {n K:Nat} {T:List (List Int)} (h:TB w p n T K) (hS:Sep w R w'):TB w' p n T K:=by
  refine ⟨h.1,h.2.1,fun i L hL => ?_⟩
  obtain ⟨b,off,q,c,hp,hc,hs⟩:=h.2.2 i L hL
  exact ⟨b,off,q,c,hp,fun j v hj => hS.cellAt (hc j v hj),hs.on hS.below (Nat.le_refl _)⟩
theorem TB.wd {w:World} {p:Option Addr} {n K:Nat} {T:List (List Int)} (h:TB w p n T K):TW T K:=fun L hL z hz => by
  obtain ⟨i,hi⟩:=List.mem_iff_getElem?.1 hL
  obtain ⟨_,_,_,_,_,_,hs⟩:=h.2.2 i L hi
  obtain ⟨j,hj⟩:=List.mem_iff_getElem?.1 hz
  exact hs.elWd hj
end Go.Proofs.YtnlnibngpeempaaGreatDoor
