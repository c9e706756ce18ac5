/-
  Contracts and lemmas, joined in one text.
-/
import Derived.Test.YtnlnibngpeempaaGreatDoorCA
import Derived.Test.YtnlnibngpeempaaGreatDoorPrime
import Derived.Test.YtnlnibngpeempaaGreatDoorRC
import Derived.Test.YtnlnibngpeempaaGreatDoorWA
import Derived.Test.YtnlnibngpeempaaGreatDoorWC
set_option linter.unusedVariables false
set_option linter.unusedSimpArgs false
/-
  slices.Clone of numbers and of pairs.
-/
set_option maxRecDepth 100000
set_option maxHeartbeats 16000000
namespace Go.Proofs.YtnlnibngpeempaaGreatDoor
open Go.RowKit
section
variable {P:Program} {o:Oper} {n:Nat} {f:Nat → Value} {w w0:World} {R:List Res} {K:Act → World → Prop} {Q:Exit → Act → World → Prop} {d:Nat}
end
theorem Sl.news {w:World} {a:Addr} {n c:Nat} {xs:List Nat} (h:Sl w (some a) n c xs):∀ j u,(xs.map fun x:Nat => Value.int .u32 (x:Int))[j]? = some u → w.cell? (a.add j) = some u:=fun j u hu => by
  rw [List.getElem?_map,Option.map_eq_some_iff] at hu
  obtain ⟨x,hx,rfl⟩:=hu
  have hj:j < xs.length:=(List.getElem?_eq_some_iff.1 hx).1
  obtain ⟨b,off,hp,hc⟩:=h.cell j (by rw [← h.len]; exact hj)
  simp only [Option.some.injEq] at hp
  subst hp
  rw [Addr.add_mid,hc,nd_get hj]
  rw [List.getElem?_eq_getElem hj] at hx
  simp at hx
  rw [hx]
theorem infouint32:(Tryz.prog.info? 63).map (fun i => (i.zero,i.size,i.bytes)) = some (some (.int .u32 0),1,4):=by kernel_rfl
open Go.RowKit
structure Rw where
  p:Option Addr
  c:Nat
  xs:List Nat
def rwE (q:Rw):El:=⟨[.slice q.p q.xs.length q.c],[.rowm q.p q.xs.length q.c q.xs]⟩
def mmE (Q:List Rw):List El:=Q.map rwE
def nums (Q:List Rw):List (List Nat):=Q.map Rw.xs
theorem nums_len (Q:List Rw):(nums Q).length = Q.length:=List.length_map _
theorem mmE_len (Q:List Rw):(mmE Q).length = Q.length:=List.length_map _
theorem mmE_get {Q:List Rw} {i:Nat} {q:Rw} (h:Q[i]? = some q):(mmE Q)[i]? = some (rwE q):=by simp [mmE,h]
section
variable {w0 w:World} {R:List Res} {e:TypeId} {sz m c:Nat} {p:Option Addr} {es:List El}
theorem Els.flatC_set {i:Nat} {el:El} {rs:List Res} (hi:es[i]? = some el):flatC (es.set i ⟨el.cs,rs⟩) = flatC es:=by
 obtain ⟨hl,rfl⟩:=List.getElem?_eq_some_iff.1 hi
 clear hi
 induction es generalizing i with
 | nil => simp at hl
 | cons x es ih =>
  cases i with
  | zero => simp [flatC]
  | succ i => simpa [flatC] using ih (i:=i) (by simpa using hl)
theorem Sep.takeEl {i:Nat} {el:El} (h:Sep w0 (.lst e sz p m c es :: R) w) (hi:es[i]? = some el):Sep w0 (el.rs ++ (.lst e sz p m c (es.set i ⟨el.cs,[]⟩) :: R)) w:=by
 obtain ⟨hE,hl,hS⟩:=h.openL
 have hil:=(List.getElem?_eq_some_iff.1 hi).1
 have hel:=hE el (List.mem_of_getElem? hi)
 obtain ⟨S,p1,p2⟩:=flatR_set_perm (el:=⟨el.cs,[]⟩) (rs:=[]) (es:=es) (i:=i) hil
 rw [hi] at p1
 simp only [Option.map_some,Option.getD_some] at p1
 simp only [List.append_nil] at p2
 have h2:Sep w0 (.lst e sz p m c (es.set i ⟨el.cs,[]⟩) :: (el.rs ++ R)) w:=by
  refine Sep.closeL (hE.set i ⟨hel.1,hel.2.1,fun r hr => by cases hr⟩) (by simpa using hl) ?_
  rw [Els.flatC_set hi]
  refine hS.perm (List.Perm.cons _ ?_)
  refine (p1.append_right R).trans ?_
  rw [List.append_assoc]
  exact p2.symm.append_right _
 exact h2.perm List.perm_middle.symm
theorem Sep.putEl {i:Nat} {cs:List Value} {rs:List Res} (h:Sep w0 (rs ++ (.lst e sz p m c es :: R)) w) (hi:es[i]? = some ⟨cs,[]⟩) (hr:(rs.all fun r => r.own && !r.arg) = true):Sep w0 (.lst e sz p m c (es.set i ⟨cs,rs⟩) :: R) w:=by
  have h':Sep w0 (.lst e sz p m c es :: (rs ++ R)) w:=h.perm List.perm_middle
  obtain ⟨hE,hl,hS⟩:=h'.openL
  have hil:=(List.getElem?_eq_some_iff.1 hi).1
  have hel:=hE _ (List.mem_of_getElem? hi)
  obtain ⟨S,p1,p2⟩:=flatR_set_perm (el:=⟨cs,rs⟩) (rs:=[]) (es:=es) (i:=i) hil
  rw [hi] at p1
  simp only [Option.map_some,Option.getD_some,List.append_nil] at p1
  refine Sep.closeL (hE.set i ⟨hel.1,hel.2.1,fun r hr' => by have:=List.all_eq_true.1 hr r hr'; simpa using this⟩) (by simpa using hl) ?_
  rw [Els.flatC_set (el:=⟨cs,[]⟩) hi]
  refine hS.perm (List.Perm.cons _ ?_)
  refine (p1.append_right _).trans ?_
  refine (List.Perm.trans ?_ (p2.symm.append_right R))
  rw [List.append_assoc]
theorem Sep.rowOf {Q:List Rw} {i:Nat} {q:Rw} (h:Sep w0 R w) (k:Nat) (hk:R[k]? = some (.lst 25 1 p m c (mmE Q))) (hi:Q[i]? = some q):∃ g,p = some ⟨g,0,none⟩ ∧ (∀ j v,[Value.slice q.p q.xs.length q.c][j]? = some v → w.cell? ⟨g,0 + i * 1 + j,none⟩ = some v) ∧ Fr 0 w q.p q.xs.length q.c q.xs:=by
  obtain ⟨g,h1,h2,h3⟩:=h.lstCell k hk (mmE_get hi) (by omega)
  exact ⟨g,h1,h2,h3 _ List.mem_cons_self⟩
theorem Sep.lstLen (h:Sep w0 R w) (k:Nat) (hk:R[k]? = some (.lst e sz p m c es)):es.length = m:=(show (Res.lst e sz p m c es).holds w from h.get k hk).2.1
def u32E (xs:List Nat):List El:=xs.map fun x:Nat => ⟨[.int .u32 (x:Int)],[]⟩
theorem flatC_u32E (xs:List Nat):flatC (u32E xs) = xs.map fun x:Nat => Value.int .u32 (x:Int):=by
  unfold flatC u32E
  rw [List.flatMap_map]
  induction xs with
  | nil => rfl
  | cons x xs ih => simp only [List.flatMap_cons,List.map_cons,ih]; rfl
theorem flatR_u32E (xs:List Nat):flatR (u32E xs) = []:=by
  unfold flatR u32E
  rw [List.flatMap_map]
  induction xs with
  | nil => rfl
  | cons x xs ih => simp only [List.flatMap_cons,ih]; rfl
theorem Sep.lstRow {xs:List Nat} (h:Sep w0 (.lst 63 1 p m c (u32E xs) :: R) w) (hl:Lims xs):Sep w0 (.rowm p m c xs :: R) w:=by
 obtain ⟨hE,hlen,hS⟩:=h.openL
 rw [flatC_u32E,flatR_u32E,List.nil_append] at hS
 have hf:(Res.own' 63 1 p m c (xs.map fun x:Nat => Value.int .u32 (x:Int))).holds w:=hS.holds _ List.mem_cons_self
 refine ⟨hS.below,fun r hr => ?_,fun r hr ha g hg => ?_,?_⟩
 ·rcases List.mem_cons.1 hr with rfl | hr
  ·exact ⟨by simpa [u32E] using hlen,hl,hf⟩
  exact hS.holds r (List.mem_cons_of_mem _ hr)
 ·rcases List.mem_cons.1 hr with rfl | hr
  ·exact hS.low _ List.mem_cons_self rfl g hg
  exact hS.low r (List.mem_cons_of_mem _ hr) ha g hg
 have hap:=List.pairwise_cons.1 hS.apart
 exact List.pairwise_cons.2 ⟨fun s hs _ g hg hs' => hap.1 s hs rfl g hg hs',hap.2⟩
theorem Sep.rowLst {xs:List Nat} (h:Sep w0 (.rowm p m c xs :: R) w):Sep w0 (.lst 63 1 p m c (u32E xs) :: R) w:=by
 have hf:=(show Fr 0 w p m c xs from h.holds _ List.mem_cons_self)
 refine Sep.closeL (fun el hel => ?_) (by simpa [u32E] using hf.len) ?_
 ·obtain ⟨x,_,rfl⟩:=List.mem_map.1 hel
  exact ⟨rfl,rfl,fun r hr => by cases hr⟩
 rw [flatC_u32E,flatR_u32E,List.nil_append]
 refine ⟨h.below,fun r hr => ?_,fun r hr ha g hg => ?_,?_⟩
 ·rcases List.mem_cons.1 hr with rfl | hr
  ·exact hf.own
  exact h.holds r (List.mem_cons_of_mem _ hr)
 ·rcases List.mem_cons.1 hr with rfl | hr
  ·exact h.low _ List.mem_cons_self rfl g hg
  exact h.low r (List.mem_cons_of_mem _ hr) ha g hg
 have hap:=List.pairwise_cons.1 h.apart
 exact List.pairwise_cons.2 ⟨fun s hs _ g hg hs' => hap.1 s hs rfl g hg hs',hap.2⟩
end
section
variable {P:Program} {o:Oper} {n:Nat} {f:Nat → Value} {w w0:World} {R:List Res} {K:Act → World → Prop} {Q':Exit → Act → World → Prop} {d:Nat}
end
section
variable {P:Program} {o:Oper} {n:Nat} {f:Nat → Value} {w:World} {K:Act → World → Prop} {Q':Exit → Act → World → Prop} {d:Nat}
end
theorem Sep.lstCap {w0 w:World} {R:List Res} (h:Sep w0 R w) (k:Nat) {e:TypeId} {sz m c:Nat} {p:Option Addr} {es:List El} (hk:R[k]? = some (.lst e sz p m c es)):m ≤ c:=by
  obtain ⟨_,_,h3,_⟩:=(show (Res.lst e sz p m c es).holds w from h.get k hk)
  rcases (h3 _ List.mem_cons_self).2 with ⟨hv,_⟩ | ⟨g,cap,_,hg,_,_,hmc,_⟩
  · simp only [Value.slice.injEq] at hv; omega
  simp only [Value.slice.injEq,true_and] at hg; omega
def MS (w:World) (p:Option Addr) (n:Nat) (M:List (List Nat)):Prop:=M.length = n ∧ n ≤ maxLen ∧ ∀ (i:Nat) (row:List Nat),M[i]? = some row → ∃ b off q c,p = some ⟨b,off,none⟩ ∧ (∀ j v,[Value.slice q row.length c][j]? = some v → w.cell? ⟨b,off + i * 1 + j,none⟩ = some v) ∧ Sl w q row.length c row
theorem MS.on {w w':World} {p:Option Addr} {n B:Nat} {M:List (List Nat)} (h:MS w p n M) (hb:Below B w w') (hB:w.heap.size ≤ B):MS w' p n M:=by
  refine ⟨h.1,h.2.1,fun i row hr => ?_⟩
  obtain ⟨b,off,q,c,hp,hc,hs⟩:=h.2.2 i row hr
  refine ⟨b,off,q,c,hp,fun j v hj => ?_,hs.below hb hB⟩
  have h1:=hc j v hj
  have hlt:=World.block_lt_of_cell? w _ h1
  exact (hb.cell (p:=⟨b,off + i * 1 + j,none⟩) (Nat.lt_of_lt_of_le hlt hB)).trans h1
theorem MS.at {w w':World} {R:List Res} {p:Option Addr} {n:Nat} {M:List (List Nat)} (h:MS w p n M) (hS:Sep w R w'):MS w' p n M:=h.on hS.below (Nat.le_refl _)
theorem Sep.ms {w0 w:World} {R:List Res} (hS:Sep w0 R w) (k:Nat) {p:Option Addr} {n c:Nat} {Q:List Rw} (hk:R[k]? = some (.lst 25 1 p n c (mmE Q))) (hn:n ≤ maxLen):MS w p n (nums Q):=by
 refine ⟨by rw [nums_len, ← mmE_len]; exact hS.lstLen k hk,hn,fun i row hr => ?_⟩
 obtain ⟨q,hq,rfl⟩:∃ q,Q[i]? = some q ∧ q.xs = row:=by
  unfold nums at hr
  rw [List.getElem?_map] at hr
  cases h:Q[i]? with
  | none => rw [h] at hr; cases hr
  | some q => rw [h] at hr; exact ⟨q,rfl,by simpa using hr⟩
 obtain ⟨g,hp,hc,hf⟩:=hS.rowOf k hk hq
 exact ⟨g,0,q.p,q.c,hp,hc,hf.sl⟩
section
variable {w0 w:World} {R:List Res} {m c i j n g:Nat} {p pp:Option Addr} {cc:Nat} {xs:List Nat} {Q:List Rw}
theorem Sep.lstAt (h:Sep w0 R w) (k:Nat) {e:TypeId} {sz:Nat} {es:List El} {el:El} {off:Nat} {v:Value} (hk:R[k]? = some (.lst e sz p n c es)) (hp:p = some ⟨g,0,none⟩) (i j:Nat) (hi:es[i]? = some el) (hj:el.cs[j]? = some v) (h0:0 < sz) (ho:i * sz + j = off):w.cell? ⟨g,off,none⟩ = some v:=by
  obtain ⟨g',h1,h2,_⟩:=h.lstCell k hk hi h0
  rw [hp] at h1
  simp only [Option.some.injEq,Addr.mk.injEq,and_true] at h1
  subst h1; subst ho
  have:=h2 j v hj
  rwa [Nat.zero_add] at this
theorem Sep.lstAtA (h:Sep w0 R w) (k:Nat) {e:TypeId} {sz:Nat} {es:List El} {el:El} {off:Nat} (hk:R[k]? = some (.lst e sz p n c es)) (hp:p = some ⟨g,0,none⟩) (i:Nat) (hi:es[i]? = some el) (h0:0 < sz) (ho:i * sz = off):∀ (j:Nat) (v:Value),el.cs[j]? = some v → w.cell? ⟨g,off + j,none⟩ = some v:=fun j v hj => h.lstAt k hk hp i j hi hj h0 (by rw [ho])
theorem Sep.lstPtr (h:Sep w0 R w) (k:Nat) {e:TypeId} {sz:Nat} {es:List El} (hk:R[k]? = some (.lst e sz p n c es)) (h0:0 < n):∃ g,p = some ⟨g,0,none⟩:=by
  obtain ⟨_,h2,h3,_⟩:=(show (Res.lst e sz p n c es).holds w from h.get k hk)
  rcases (h3 _ List.mem_cons_self).2 with ⟨hv,_⟩ | ⟨g,_,_,hg,_⟩
  · simp only [Value.slice.injEq] at hv; have:=hv.2.1; omega
  simp only [Value.slice.injEq] at hg; exact ⟨g,hg.1⟩
end
theorem Sl.el {w:World} {p:Option Addr} {n c:Nat} {xs:List Nat} (h:Sl w p n c xs) {i:Nat} (hi:i < n):∃ b off,p = some ⟨b,off,none⟩ ∧ ∀ (j:Nat) (v:Value),[Value.int .u32 ((nd xs i:Nat):Int)][j]? = some v → w.cell? ⟨b,off + i * 1 + j,none⟩ = some v:=by
  obtain ⟨b,off,hp,hc⟩:=h.cell i hi
  refine ⟨b,off,hp,fun j v hj => ?_⟩
  have h1:j = 0:=by have:=(List.getElem?_eq_some_iff.1 hj).1; simp at this; omega
  subst h1
  simp at hj
  subst hj
  rw [Nat.mul_one]; exact hc
theorem oappendR {P:Program} {o:Oper} {n:Nat} {f:Nat → Value} {w w0:World} {R:List Res} {K:Act → World → Prop} {Q':Exit → Act → World → Prop} {d:Nat} {t:TypeId} {x y:Operand} {p:Option Addr} {m c k c2:Nat} {a:Option Addr} {xs ys:List Nat}
  (hS:Sep w0 (.rowm p m c xs :: R) w) (hop:o.op = .call { callee:=.builtin .append,args:=#[x,y],argTypes:=#[t,t] }) (ho:o.dst = some d) (ht:P.underlying t = some (.slice 63)) (hi:(P.info? 63).map (fun i => (i.zero,i.size,i.bytes)) = some (some (.int .u32 0),1,4))
  (hx:(act n f).eval x = .slice p m c) (hy:(act n f).eval y = .slice a k c2) (hs:Sl w a k c2 ys) (hk:0 < k) (hm:m + k ≤ 1073741824)
  (hK:∀ p' c' w',Sep w0 (.rowm p' (m + k) c' (xs ++ ys) :: R) w' → K (act n (upd f d (.slice p' (m + k) c'))) w'):OW P o (act n f) w K Q':=by
 rcases hi':P.info? 63 with _ | i
 ·rw [hi'] at hi; cases hi
 rw [hi'] at hi
 simp only [Option.map_some,Option.some.injEq,Prod.mk.injEq] at hi
 obtain ⟨hi1,hi2,hi3⟩:=hi
 have hxl:Lims xs:=(show Fr 0 w p m c xs from hS.holds _ List.mem_cons_self).lims
 obtain ⟨hE,hle,hS'⟩:=hS.rowLst.openL
 rw [flatC_u32E,flatR_u32E,List.nil_append] at hS'
 have hown:=(show (Res.own' 63 1 p m c (xs.map fun x:Nat => Value.int .u32 (x:Int))).holds w from hS'.holds _ List.mem_cons_self)
 obtain ⟨b,off,ha,_⟩:=hs.cell 0 hk
 subst ha
 obtain ⟨p',c',w',hrun,ho',hg,hp'⟩:=run_appendAt (P:=P) (w:=w) (ty:=o.type) (c2:=c2) ht hi' hi1 hi2 hi3 rfl (by omega) hown (a:=⟨b,off,none⟩) (k:=k) (news:=ys.map fun x:Nat => Value.int .u32 (x:Int)) (by rw [List.length_map,hs.len,Nat.mul_one]) (fun j u hu => by
  have hj:j < k:=by have:=(List.getElem?_eq_some_iff.1 hu).1; rw [List.length_map,hs.len] at this; exact this
  obtain ⟨b',off',hp,hc⟩:=hs.cell j hj
  simp only [Option.some.injEq,Addr.mk.injEq,and_true] at hp
  obtain ⟨rfl,rfl⟩:=hp
  rw [Addr.add_mid,hc]
  rw [List.getElem?_map,List.getElem?_eq_getElem (by rw [hs.len]; exact hj)] at hu
  rw [nd_get (by rw [hs.len]; exact hj)]
  exact hu) (fun u hu => by obtain ⟨x,_,rfl⟩:=List.mem_map.1 hu; rfl) hk (by simp only [maxLen]; omega) (by omega)
 have hS2:=hS'.grownL hg ho' hp'
 have hfin:Sep w0 (.rowm p' (m + k) c' (xs ++ ys) :: R) w':=by
  refine Sep.lstRow (Sep.closeL (fun el hel => ?_) ?_ ?_) (hxl.append hs.lims)
  ·obtain ⟨x,_,rfl⟩:=List.mem_map.1 hel
   exact ⟨rfl,rfl,fun r hr => by cases hr⟩
  ·have h1:xs.length = m:=by simpa [u32E] using hle
   simp [u32E,h1,hs.len]
  rw [flatC_u32E,flatR_u32E,List.nil_append,List.map_append]
  exact hS2
 refine ⟨?_⟩
 have:=hK _ _ _ hfin
 unfold Oper.wp execOp
 simp only [hop,resolve,invoke,builtin,Sem.run_bind,Sem.run_pure,Result.andThen_ok,List.map_toArray,List.map_cons,List.map_nil,hx,hy,hrun]
 show K ((act n f).put o.dst _) w'
 rw [ho,act_put]
 exact this
theorem fill1_1s {u a:Value} (hu:u.cells = #[u]) (ha:a.cells = #[a]):Instr.fill (fun i => some (i * 1,1)) ((Array.range (1 * 1)).map (u.cells[· % u.cells.size]!)) #[(0,a)].toList = some [a].toArray:=by
 rw [hu]
 simp [Instr.fill,ha,Array.range]
 apply Array.ext
 ·simp
 intro i h1 h2
 have h3:i = 0:=by simp at h2; omega
 subst h3; simp
open Go.RowKit
theorem wqSameAll {L:List (Bool × List Nat)} {w:World} {pl pk:Option Addr} {m cl ck:Nat} (hx:ZL w pl m L 67108864) (hy:ZL w pk m L 67108864) :
  Calls Tryz.prog 30 #[.slice pl m cl,.slice pk m ck] w (Ret (Is (.bool true)) w):=by
 have hS:=Sep.init w
 refine went Tryz.func30 rfl (n:=27) rfl rfl ?_
 refine wsr (wavc ?_)
 refine wn1 (wSq (wsr (wmv rfl rfl ?_)))
 refine wl rfl (olen rfl rfl rfl Tryz.runUnderlying32 (p:=pl) (k:=m) (m:=cl) (ev rfl rfl) ?_)
 refine wmv rfl rfl ?_
 refine wl rfl (olen rfl rfl rfl Tryz.runUnderlying32 (p:=pk) (k:=m) (m:=ck) (ev rfl rfl) ?_)
 refine wbt rfl rfl rfl rfl (bNe (neF rfl)) ?_
 refine wn1 ?_
 refine wF (ev rfl rfl) ?_
 refine wSk (tNo (wSq (wsr (wmv rfl rfl ?_))))
 refine wl rfl (olen rfl rfl rfl Tryz.runUnderlying32 (p:=pl) (k:=m) (m:=cl) (ev rfl rfl) ?_)
 refine wmvc ?_
 refine wn1 (wBk ?_)
 refine wLp (σ := Nat) (fun i a w' => ∃ (fb:Nat → Value),a = act 27 (sets fb [(0,.slice pl m cl),(1,.slice pk m ck),(12,.int .i64 (m:Int)),(13,.int .i64 (i:Int))]) ∧ Sep w [] w' ∧ (i ≤ m)) (fun i => m - i) (0) ⟨_,aSs ⟨rfl,rfl,rfl,rfl,trivial⟩,hS,Nat.zero_le _⟩ ?_
 clear hS; rintro i _ w1 ⟨fb,rfl,hS,hi⟩
 refine wsr ?_
 by_cases hlt:i < m
 ·
  refine wbt rfl rfl rfl rfl (bLs (decide_eq_true (by omega))) ?_
  refine wn1 (wSq ?_)
  refine wT (ev rfl rfl) ?_
  refine wk2 (wmv rfl rfl ?_)
  refine wav rfl rfl ?_
  refine wn1 (wSq ?_)
  obtain ⟨e1,g1x,o1,q1,n1,k1,hle,hp1,hc1,hs1,hn1⟩:=hx.el hlt
  obtain ⟨e2,g2x,o2,q2,n2,k2,hle2,hp2,hc2,hs2,hn2⟩:=hy.el hlt
  obtain rfl:e1 = e2:=Option.some.inj (hle.symm.trans hle2)
  refine wSg 10 [16,17,18,19,20,21,22,23,24,25] [[],[],[0,1],[2,0,1],[],[],[4,5],[6,4,5],[3,7,0,1,2,4,5,6],[8,0,1,2,3,4,5,6,7]] [] [] [] (fun i9 => ([iSv (.slice pl m cl),iSv (.int .i64 (i:Int)),iSv (.pointer (some ⟨g1x,(o1 + i * 2),none⟩)),iSv (.agg #[.bool e1.1,.slice q1 n1 k1]),iSv (.slice pk m ck),iSv (.int .i64 (i:Int)),iSv (.pointer (some ⟨g2x,(o2 + i * 2),none⟩)),iSv (.agg #[.bool e1.1,.slice q2 n2 k2]),iSv (.bool true),iSv (.bool false)]:List (List Value → Tell)).getD i9 (fun _ _ _ => False)) hNi (fun d _ _ _ _ h => (by cases d <;> exact h)) (by kernel_rfl) (by kernel_rfl) (by kernel_rfl) hS ?_ ?_
  ·
   refine stM rfl rfl rfl rfl rfl (fun _=>isI) ?_
   refine stM rfl rfl rfl rfl rfl (fun _=>isI) ?_
   refine stT rfl (fun hT hS=>?_) ?_
   ·obtain ⟨hv0,hr0⟩:=hT 0 16 rfl rfl
    obtain ⟨hv1,hr1⟩:=hT 1 17 rfl rfl
    obtain hS:=hS.flat2 hr0 hr1
    exact inNo rfl (oIx (p:=pl) (g:=g1x) (off:=o1) (m:=m) (k:=i) (j:=(o1 + i * 2)) rfl rfl Tryz.runUnderlying32 Tryz.sizeOf28 (ev rfl hv0) hp1 (ev rfl hv1) hlt rfl (nSm rfl isI))
   refine stT rfl (fun hT hS=>?_) ?_
   ·obtain ⟨hv2,hr2⟩:=hT 2 18 rfl rfl
    obtain hS:=hS.flat1 hr2
    exact inNo rfl (oloadA aggZ rfl rfl (ev rfl hv2) (fun j v hj => hS.cellAt (hc1 j v hj)) rfl (nSm rfl isI))
   refine stM rfl rfl rfl rfl rfl (fun _=>isI) ?_
   refine stM rfl rfl rfl rfl rfl (fun _=>isI) ?_
   refine stT rfl (fun hT hS=>?_) ?_
   ·obtain ⟨hv4,hr4⟩:=hT 4 20 rfl rfl
    obtain ⟨hv5,hr5⟩:=hT 5 21 rfl rfl
    obtain hS:=hS.flat2 hr4 hr5
    exact inNo rfl (oIx (p:=pk) (g:=g2x) (off:=o2) (m:=m) (k:=i) (j:=(o2 + i * 2)) rfl rfl Tryz.runUnderlying32 Tryz.sizeOf28 (ev rfl hv4) hp2 (ev rfl hv5) hlt rfl (nSm rfl isI))
   refine stT rfl (fun hT hS=>?_) ?_
   ·obtain ⟨hv6,hr6⟩:=hT 6 22 rfl rfl
    obtain hS:=hS.flat1 hr6
    exact inNo rfl (oloadA aggZ rfl rfl (ev rfl hv6) (fun j v hj => hS.cellAt (hc2 j v hj)) rfl (nSm rfl isI))
   refine stT rfl (fun hT hS=>?_) ?_
   ·obtain ⟨hv3,hr3⟩:=hT 3 19 rfl rfl
    obtain ⟨hv7,hr7⟩:=hT 7 23 rfl rfl
    obtain hS:=hS.flat2 hr3 hr7
    exact .inl ⟨wNo rfl,oCl rfl rfl Tryz.call23 rfl ((qsame_yes (hs1.below hS.below (Nat.le_refl _)) (hs2.below hS.below (Nat.le_refl _))).mono RetB.u) (ar2 (ev rfl hv3) (ev rfl hv7)) cNw⟩
   refine stT rfl (fun hT hS=>?_) ?_
   ·obtain ⟨hv8,hr8⟩:=hT 8 24 rfl rfl
    obtain hS:=hS.flat1 hr8
    exact inNo rfl (onot rfl rfl (ev rfl hv8) (nSm rfl isI))
   exact sNi
  intro vs ρ w2 f' hf hT hS
  obtain ⟨hv0,hr0⟩:=hT 0 (by decide)
  obtain ⟨hv1,hr1⟩:=hT 1 (by decide)
  obtain ⟨hv2,hr2⟩:=hT 2 (by decide)
  obtain ⟨hv3,hr3⟩:=hT 3 (by decide)
  obtain ⟨hv4,hr4⟩:=hT 4 (by decide)
  obtain ⟨hv5,hr5⟩:=hT 5 (by decide)
  obtain ⟨hv6,hr6⟩:=hT 6 (by decide)
  obtain ⟨hv7,hr7⟩:=hT 7 (by decide)
  obtain ⟨hv8,hr8⟩:=hT 8 (by decide)
  obtain ⟨hv9,hr9⟩:=hT 9 (by decide)
  simp only [pool,if_true,hr0,hr1,hr2,hr3,hr4,hr5,hr6,hr7,hr8,hr9,List.nil_append,List.cons_append,List.append_nil] at hS
  simp only [layf,hv0,hv1,hv2,hv3,hv4,hv5,hv6,hv7,hv8,hv9] at hf
  subst hf; clear hT hv0 hv1 hv2 hv3 hv4 hv5 hv6 hv7 hv8 hv9 hr0 hr1 hr2 hr3 hr4 hr5 hr6 hr7 hr8 hr9
  refine wdone rfl ?_
  refine tNo ?_
  refine wF (ev rfl rfl) ?_
  refine wSk (blkN (tNo (wreg (wbc (z:=.int .i64 ((i + 1:Nat):Int)) rfl rfl (bAd (wrap_succ (by have:=hx.2.1; omega))) ?_))))
  refine wmv rfl rfl ?_
  refine wn1 ?_
  exact ⟨(i + 1),⟨_,aSs ⟨rfl,rfl,rfl,rfl,trivial⟩,hS.pick [] (by decide) rfl,by omega⟩,by omega⟩
 refine wbt rfl rfl rfl rfl (bLs (decide_eq_false (by omega))) ?_
 refine wn1 (wSq ?_)
 refine wF (ev rfl rfl) ?_
 refine wEx ?_
 refine tEx ?_
 refine tEx ?_
 refine blkE ?_
 refine tNo (wsr (wavc ?_))
 refine wn1 ?_
 refine wLv ?_
 refine wr1 Tryz.results30 (tlT (v:=.bool true) rfl rfl) ?_
 exact ⟨_,_,rfl,isI,hS.new0⟩
open Go.RowKit
open Go.RowKit
section
variable {P:Program} {o:Oper} {n:Nat} {f:Nat → Value} {w w0:World} {R:List Res} {K:Act → World → Prop} {Q':Exit → Act → World → Prop} {d:Nat}
theorem flatC_app (a b:List El):flatC (a ++ b) = flatC a ++ flatC b:=by simp [flatC]
theorem flatR_app (a b:List El):flatR (a ++ b) = flatR a ++ flatR b:=by simp [flatR]
end
end Go.Proofs.YtnlnibngpeempaaGreatDoor
