/-
  Contracts and lemmas, joined in one text.
-/
import Derived.Test.YtcfcdbeemhjhgaaDoorCA
import Derived.Test.YtcfcdbeemhjhgaaDoorPrime
import Derived.Test.YtcfcdbeemhjhgaaDoorRC
set_option linter.unusedVariables false
set_option linter.unusedSimpArgs false
/-
  slices.Clone of numbers and of pairs.
-/
namespace Go.Proofs.YtcfcdbeemhjhgaaDoor
open Go.RowKit
section
variable {P:Program} {o:Oper} {n:Nat} {f:Nat → Value} {w w0:World} {R:List Res} {K:Act → World → Prop} {Q:Exit → Act → World → Prop} {d:Nat}
theorem obslice0 {t e:TypeId} {sz:Nat} (hS:Sep w0 R w) (hop:o.op = .buildSlice t 0 #[]) (ho:o.dst = some d) (ht:∀ w,(underlying t).run P w = .ok (.slice e) w) (hs:∀ w,(sizeOf e).run P w = .ok sz w)
  (hK:∀ g w',Sep w0 (.blk g [] e :: R) w' → K (act n (upd f d (.slice (some ⟨g,0,none⟩) 0 0))) w'):OW P o (act n f) w K Q:=by
 refine ⟨?_⟩
 have:=hK _ _ (hS.alloc [] e)
 unfold Oper.wp
 simp only [execOp,hop]
 simp [Instr.buildSlice,ht,hs,Instr.fill,newRow]
 rw [Oper.upon_value,ho,act_put]
 have e0:(Array.range 0).map (fun _ => (default:Value)) = #[]:=by simp
 rw [e0]
 exact this
theorem oappend0 {t e:TypeId} {x y:Operand} {z:Value} {sz by':Nat} {g m c2:Nat} {a:Addr} (news:List Value) (hS:Sep w0 (.blk g [] e :: R) w) (hop:o.op = .call { callee:=.builtin .append,args:=#[x,y],argTypes:=#[t,t] }) (ho:o.dst = some d) (ht:P.underlying t = some (.slice e)) (hi:(P.info? e).map (fun i => (i.zero,i.size,i.bytes)) = some (some z,sz,by')) (hzs:z.cells.size = sz) (hsz:0 < sz)
  (hx:(act n f).eval x = .slice (some ⟨g,0,none⟩) 0 0) (hy:(act n f).eval y = .slice (some a) m c2) (hl:news.length = m * sz) (hnews:∀ j u,news[j]? = some u → w.cell? (a.add j) = some u) (h1:∀ u ∈ news,u.oneCell' = true) (h63:m ≤ 9223372036854775807) (hb:m * by' ≤ 140737488355328)
  (hK:∀ p' c' w',Sep w0 (.own' e sz p' m c' news :: R) w' → K (act n (upd f d (.slice p' m c'))) w'):OW P o (act n f) w K Q:=by
 rcases hi':P.info? e with _ | i
 ·rw [hi'] at hi; cases hi
 rw [hi'] at hi
 simp only [Option.map_some,Option.some.injEq,Prod.mk.injEq] at hi
 obtain ⟨hi1,hi2,hi3⟩:=hi
 have hS':=hS.ofBlk (sz:=sz) (m:=0) (cap:=0) (Nat.le_refl _) (Nat.zero_le _) (by simp)
 have hown:=(show (Res.own' e sz (some ⟨g,0,none⟩) 0 0 (([]:List Value).take (0 * sz))).holds w from hS'.holds _ List.mem_cons_self)
 have hfin:∃ p' c' w',(Builtin.append_ #[t,t] o.type #[.slice (some ⟨g,0,none⟩) 0 0,.slice (some a) m c2]).run P w = .ok (.slice p' m c') w' ∧ Sep w0 (.own' e sz p' m c' news :: R) w':=by
  rcases Nat.eq_zero_or_pos m with h0 | h0
  ·subst h0
   obtain rfl:news = []:=List.eq_nil_of_length_eq_zero (by simpa using hl)
   have hr:=run_append_room (P:=P) w t o.type e i ht hi' g 0 0 #[] (hS.blkAt 0 rfl) a 0 c2 [] (by simp) hnews h1 (by simp) (by simp)
   obtain ⟨v',w',hr0,h2,h3,_⟩:=run_append_own (P:=P) w 0 t o.type e i z sz by' ht hi' hi1 hi2 hi3 hzs hsz _ 0 _ hown a 0 c2 [] (by simp) hnews h1 (by simp) (by simp) (Nat.zero_le _)
   rw [hr0] at hr
   simp only [Result.ok.injEq] at hr
   obtain ⟨rfl,rfl⟩:=hr
   exact ⟨_,_,_,hr0,by simpa using hS'.grownL (m':=0) (c':=0) (cs':=[]) h3 (by simpa using h2) (.inl rfl)⟩
  obtain ⟨p',c',w',hrun,ho',hg,hp'⟩:=run_appendAt (P:=P) (w:=w) (ty:=o.type) (c2:=c2) ht hi' hi1 hi2 hi3 hzs hsz hown (a:=a) (k:=m) (news:=news) hl hnews h1 h0 (by simp only [maxLen]; omega) (by rw [Nat.zero_add]; exact hb)
  have hS2:=hS'.grownL hg ho' hp'
  rw [Nat.zero_add] at hrun hS2
  exact ⟨p',c',w',hrun,by simpa using hS2⟩
 obtain ⟨p',c',w',hrun,hfin⟩:=hfin
 refine ⟨?_⟩
 have:=hK _ _ _ hfin
 unfold Oper.wp execOp
 simp only [hop,resolve,invoke,builtin,Sem.run_bind,Sem.run_pure,Result.andThen_ok,List.map_toArray,List.map_cons,List.map_nil,hx,hy,hrun]
 show K ((act n f).put o.dst _) w'
 rw [ho,act_put]
 exact this
end
theorem Sep.ownRow {w0 w:World} {R:List Res} {p:Option Addr} {n c:Nat} {xs:List Nat} (h:Sep w0 (.own' 24 1 p n c (xs.map fun x:Nat => Value.int .u32 (x:Int)) :: R) w) (hl:xs.length = n) (hx:Lims xs):Sep w0 (.rowm p n c xs :: R) w:=by
  have hh:=(show (Res.own' 24 1 p n c (xs.map fun x:Nat => Value.int .u32 (x:Int))).holds w from h.holds _ List.mem_cons_self)
  exact h.change 0 (r':=.rowm p n c xs) rfl rfl rfl (fun k hk => hk) ⟨rfl,rfl,rfl,rfl,fun _ _ => rfl⟩ (w':=w) (⟨hl,hx,hh⟩:Fr 0 w p n c xs)
theorem Sl.news {w:World} {a:Addr} {n c:Nat} {xs:List Nat} (h:Sl w (some a) n c xs):∀ j u,(xs.map fun x:Nat => Value.int .u32 (x:Int))[j]? = some u → w.cell? (a.add j) = some u:=fun j u hu => by
  rw [List.getElem?_map,Option.map_eq_some_iff] at hu
  obtain ⟨x,hx,rfl⟩:=hu
  have hj:j < xs.length:=(List.getElem?_eq_some_iff.1 hx).1
  obtain ⟨b,off,hp,hc⟩:=h.cell j (by rw [← h.len]; exact hj)
  simp only [Option.some.injEq] at hp
  subst hp
  rw [Addr.add_mid,hc,nd_get hj]
  rw [List.getElem?_eq_getElem hj] at hx
  simp at hx
  rw [hx]
theorem infouint32:(Tryd.prog.info? 24).map (fun i => (i.zero,i.size,i.bytes)) = some (some (.int .u32 0),1,4):=by kernel_rfl
open Go.RowKit
structure Rw where
  p:Option Addr
  c:Nat
  xs:List Nat
def rwE (q:Rw):El:=⟨[.slice q.p q.xs.length q.c],[.rowm q.p q.xs.length q.c q.xs]⟩
def mmE (Q:List Rw):List El:=Q.map rwE
def nums (Q:List Rw):List (List Nat):=Q.map Rw.xs
def MMt (M:List (List Nat)):Tell:=fun v r => ∃ p c Q,nums Q = M ∧ v = .slice p M.length c ∧ r = [.lst 29 1 p M.length c (mmE Q)]
theorem nums_len (Q:List Rw):(nums Q).length = Q.length:=List.length_map _
theorem nums_app (Q:List Rw) (q:Rw):nums (Q ++ [q]) = nums Q ++ [q.xs]:=by simp [nums]
theorem nums_get {Q:List Rw} {i:Nat} {q:Rw} (h:Q[i]? = some q):(nums Q)[i]? = some q.xs:=by simp [nums,h]
theorem nums_set (Q:List Rw) (i:Nat) (q:Rw):nums (Q.set i q) = (nums Q).set i q.xs:=List.map_set
theorem mmE_len (Q:List Rw):(mmE Q).length = Q.length:=List.length_map _
theorem mmE_get {Q:List Rw} {i:Nat} {q:Rw} (h:Q[i]? = some q):(mmE Q)[i]? = some (rwE q):=by simp [mmE,h]
theorem mmE_set (Q:List Rw) (i:Nat) (q:Rw):mmE (Q.set i q) = (mmE Q).set i (rwE q):=List.map_set
theorem mmE_app (Q:List Rw) (q:Rw):mmE (Q ++ [q]) = mmE Q ++ [rwE q]:=by simp [mmE]
section
variable {w0 w:World} {R:List Res} {e:TypeId} {sz m c:Nat} {p:Option Addr} {es:List El}
theorem Els.flatC_set {i:Nat} {el:El} {rs:List Res} (hi:es[i]? = some el):flatC (es.set i ⟨el.cs,rs⟩) = flatC es:=by
 obtain ⟨hl,rfl⟩:=List.getElem?_eq_some_iff.1 hi
 clear hi
 induction es generalizing i with
 | nil => simp at hl
 | cons x es ih =>
  cases i with
  | zero => simp [flatC]
  | succ i => simpa [flatC] using ih (i:=i) (by simpa using hl)
theorem Sep.takeEl {i:Nat} {el:El} (h:Sep w0 (.lst e sz p m c es :: R) w) (hi:es[i]? = some el):Sep w0 (el.rs ++ (.lst e sz p m c (es.set i ⟨el.cs,[]⟩) :: R)) w:=by
 obtain ⟨hE,hl,hS⟩:=h.openL
 have hil:=(List.getElem?_eq_some_iff.1 hi).1
 have hel:=hE el (List.mem_of_getElem? hi)
 obtain ⟨S,p1,p2⟩:=flatR_set_perm (el:=⟨el.cs,[]⟩) (rs:=[]) (es:=es) (i:=i) hil
 rw [hi] at p1
 simp only [Option.map_some,Option.getD_some] at p1
 simp only [List.append_nil] at p2
 have h2:Sep w0 (.lst e sz p m c (es.set i ⟨el.cs,[]⟩) :: (el.rs ++ R)) w:=by
  refine Sep.closeL (hE.set i ⟨hel.1,hel.2.1,fun r hr => by cases hr⟩) (by simpa using hl) ?_
  rw [Els.flatC_set hi]
  refine hS.perm (List.Perm.cons _ ?_)
  refine (p1.append_right R).trans ?_
  rw [List.append_assoc]
  exact p2.symm.append_right _
 exact h2.perm List.perm_middle.symm
theorem Sep.putEl {i:Nat} {cs:List Value} {rs:List Res} (h:Sep w0 (rs ++ (.lst e sz p m c es :: R)) w) (hi:es[i]? = some ⟨cs,[]⟩) (hr:(rs.all fun r => r.own && !r.arg) = true):Sep w0 (.lst e sz p m c (es.set i ⟨cs,rs⟩) :: R) w:=by
  have h':Sep w0 (.lst e sz p m c es :: (rs ++ R)) w:=h.perm List.perm_middle
  obtain ⟨hE,hl,hS⟩:=h'.openL
  have hil:=(List.getElem?_eq_some_iff.1 hi).1
  have hel:=hE _ (List.mem_of_getElem? hi)
  obtain ⟨S,p1,p2⟩:=flatR_set_perm (el:=⟨cs,rs⟩) (rs:=[]) (es:=es) (i:=i) hil
  rw [hi] at p1
  simp only [Option.map_some,Option.getD_some,List.append_nil] at p1
  refine Sep.closeL (hE.set i ⟨hel.1,hel.2.1,fun r hr' => by have:=List.all_eq_true.1 hr r hr'; simpa using this⟩) (by simpa using hl) ?_
  rw [Els.flatC_set (el:=⟨cs,[]⟩) hi]
  refine hS.perm (List.Perm.cons _ ?_)
  refine (p1.append_right _).trans ?_
  refine (List.Perm.trans ?_ (p2.symm.append_right R))
  rw [List.append_assoc]
theorem Sep.storeM {Q:List Rw} {i k u g:Nat} {q:Rw} (h:Sep w0 (.lst 29 1 p m c (mmE Q) :: R) w) (hi:Q[i]? = some q) (hg:q.p = some ⟨g,0,none⟩) (hu:u < 4294967296) :
  Sep w0 (.lst 29 1 p m c (mmE (Q.set i ⟨q.p,q.c,q.xs.set k u⟩)) :: R) (w.setCell ⟨g,k,none⟩ (.int .u32 (u:Int))):=by
 have h1:=h.takeEl (mmE_get hi)
 have h2:=h1.storeRow 0 rfl hg k u hu
 have hil:i < (mmE Q).length:=by rw [mmE_len]; exact (List.getElem?_eq_some_iff.1 hi).1
 have h3:=Sep.putEl (rs:=[.rowm q.p q.xs.length q.c (q.xs.set k u)]) (i:=i) (cs:=[.slice q.p q.xs.length q.c]) h2 (by rw [List.getElem?_set_self hil]; rfl) rfl
 rw [List.set_set] at h3
 rw [mmE_set]
 unfold rwE
 simp only [List.length_set]
 exact h3
theorem Sep.rowOf {Q:List Rw} {i:Nat} {q:Rw} (h:Sep w0 R w) (k:Nat) (hk:R[k]? = some (.lst 29 1 p m c (mmE Q))) (hi:Q[i]? = some q):∃ g,p = some ⟨g,0,none⟩ ∧ (∀ j v,[Value.slice q.p q.xs.length q.c][j]? = some v → w.cell? ⟨g,0 + i * 1 + j,none⟩ = some v) ∧ Fr 0 w q.p q.xs.length q.c q.xs:=by
  obtain ⟨g,h1,h2,h3⟩:=h.lstCell k hk (mmE_get hi) (by omega)
  exact ⟨g,h1,h2,h3 _ List.mem_cons_self⟩
theorem Sep.lstLen (h:Sep w0 R w) (k:Nat) (hk:R[k]? = some (.lst e sz p m c es)):es.length = m:=(show (Res.lst e sz p m c es).holds w from h.get k hk).2.1
def u32E (xs:List Nat):List El:=xs.map fun x:Nat => ⟨[.int .u32 (x:Int)],[]⟩
theorem flatC_u32E (xs:List Nat):flatC (u32E xs) = xs.map fun x:Nat => Value.int .u32 (x:Int):=by
  unfold flatC u32E
  rw [List.flatMap_map]
  induction xs with
  | nil => rfl
  | cons x xs ih => simp only [List.flatMap_cons,List.map_cons,ih]; rfl
theorem flatR_u32E (xs:List Nat):flatR (u32E xs) = []:=by
  unfold flatR u32E
  rw [List.flatMap_map]
  induction xs with
  | nil => rfl
  | cons x xs ih => simp only [List.flatMap_cons,ih]; rfl
theorem u32E_app (xs:List Nat) (x:Nat):u32E (xs ++ [x]) = u32E xs ++ [⟨[.int .u32 (x:Int)],[]⟩]:=by simp [u32E]
theorem u32E_rep (n x:Nat):u32E (List.replicate n x) = List.replicate n ⟨[.int .u32 (x:Int)],[]⟩:=by simp [u32E]
theorem Sep.lstRow {xs:List Nat} (h:Sep w0 (.lst 24 1 p m c (u32E xs) :: R) w) (hl:Lims xs):Sep w0 (.rowm p m c xs :: R) w:=by
 obtain ⟨hE,hlen,hS⟩:=h.openL
 rw [flatC_u32E,flatR_u32E,List.nil_append] at hS
 have hf:(Res.own' 24 1 p m c (xs.map fun x:Nat => Value.int .u32 (x:Int))).holds w:=hS.holds _ List.mem_cons_self
 refine ⟨hS.below,fun r hr => ?_,fun r hr ha g hg => ?_,?_⟩
 ·rcases List.mem_cons.1 hr with rfl | hr
  ·exact ⟨by simpa [u32E] using hlen,hl,hf⟩
  exact hS.holds r (List.mem_cons_of_mem _ hr)
 ·rcases List.mem_cons.1 hr with rfl | hr
  ·exact hS.low _ List.mem_cons_self rfl g hg
  exact hS.low r (List.mem_cons_of_mem _ hr) ha g hg
 have hap:=List.pairwise_cons.1 hS.apart
 exact List.pairwise_cons.2 ⟨fun s hs _ g hg hs' => hap.1 s hs rfl g hg hs',hap.2⟩
theorem Sep.rowLst {xs:List Nat} (h:Sep w0 (.rowm p m c xs :: R) w):Sep w0 (.lst 24 1 p m c (u32E xs) :: R) w:=by
 have hf:=(show Fr 0 w p m c xs from h.holds _ List.mem_cons_self)
 refine Sep.closeL (fun el hel => ?_) (by simpa [u32E] using hf.len) ?_
 ·obtain ⟨x,_,rfl⟩:=List.mem_map.1 hel
  exact ⟨rfl,rfl,fun r hr => by cases hr⟩
 rw [flatC_u32E,flatR_u32E,List.nil_append]
 refine ⟨h.below,fun r hr => ?_,fun r hr ha g hg => ?_,?_⟩
 ·rcases List.mem_cons.1 hr with rfl | hr
  ·exact hf.own
  exact h.holds r (List.mem_cons_of_mem _ hr)
 ·rcases List.mem_cons.1 hr with rfl | hr
  ·exact h.low _ List.mem_cons_self rfl g hg
  exact h.low r (List.mem_cons_of_mem _ hr) ha g hg
 have hap:=List.pairwise_cons.1 h.apart
 exact List.pairwise_cons.2 ⟨fun s hs _ g hg hs' => hap.1 s hs rfl g hg hs',hap.2⟩
end
section
variable {P:Program} {o:Oper} {n:Nat} {f:Nat → Value} {w w0:World} {R:List Res} {K:Act → World → Prop} {Q':Exit → Act → World → Prop} {d:Nat}
theorem ostoreM {ty : TypeId} {x y : Operand} {p : Option Addr} {g m c i k u : Nat} {q : Rw} {Q : List Rw} (hsz : ∀ w, (sizeOf ty).run P w = .ok 1 w) (hS : Sep w0 (.lst 29 1 p m c (mmE Q) :: R) w) (hop : o.op = .store ty x y) (ho : o.dst = none)
    (hx:(act n f).eval x = .pointer (some ⟨g,k,none⟩)) (hy:(act n f).eval y = .int .u32 (u:Int)) (hi:Q[i]? = some q) (hg:q.p = some ⟨g,0,none⟩) (hk:k < q.xs.length) (hu:u < 4294967296)
    (hK:∀ w',Sep w0 (.lst 29 1 p m c (mmE (Q.set i ⟨q.p,q.c,q.xs.set k u⟩)) :: R) w' → K (act n f) w'):OW P o (act n f) w K Q':=by
  refine ⟨?_⟩
  have:=hK _ (hS.storeM (k:=k) hi hg hu)
  obtain ⟨_,_,_,hf⟩:=hS.rowOf 0 rfl hi
  rw [hg] at hf
  have hc:=hf.cellAt hk
  have hz:=hf.frozenAt k
  unfold Oper.wp
  have hr:(Instr.storeAt ty (.pointer (some ⟨g,k,none⟩)) (.int .u32 (u:Int))).run P w = .ok () (w.setCell ⟨g,k,none⟩ (.int .u32 (u:Int))):=by
    have h2:=run_storeCells_cells (P:=P) g k [.int .u32 (u:Int)] 0 w
      (fun j hj => by obtain rfl : j = 0 := by simpa using hj
                      simp [hc]) (fun j hj => by obtain rfl : j = 0 := by simpa using hj
                                                 simpa using hz) (fun v hv => by rw [List.mem_singleton.1 hv]; rfl)
    simp only [Nat.add_zero] at h2
    simp [Instr.storeAt,Instr.sureAddr,storeVar,hsz,Value.cells,h2]
    rfl
  simp only [execOp,hop,hx,hy]
  rw [Sem.run_bind,hr,Result.andThen_ok,Sem.run_pure,Oper.upon_skip,ho]
  exact this
end
section
variable {P:Program} {o:Oper} {n:Nat} {f:Nat → Value} {w:World} {K:Act → World → Prop} {Q':Exit → Act → World → Prop} {d:Nat}
end
theorem Sep.lstCap {w0 w:World} {R:List Res} (h:Sep w0 R w) (k:Nat) {e:TypeId} {sz m c:Nat} {p:Option Addr} {es:List El} (hk:R[k]? = some (.lst e sz p m c es)):m ≤ c:=by
  obtain ⟨_,_,h3,_⟩:=(show (Res.lst e sz p m c es).holds w from h.get k hk)
  rcases (h3 _ List.mem_cons_self).2 with ⟨hv,_⟩ | ⟨g,cap,_,hg,_,_,hmc,_⟩
  · simp only [Value.slice.injEq] at hv; omega
  simp only [Value.slice.injEq,true_and] at hg; omega
def MS (w:World) (p:Option Addr) (n:Nat) (M:List (List Nat)):Prop:=M.length = n ∧ n ≤ maxLen ∧ ∀ (i:Nat) (row:List Nat),M[i]? = some row → ∃ b off q c,p = some ⟨b,off,none⟩ ∧ (∀ j v,[Value.slice q row.length c][j]? = some v → w.cell? ⟨b,off + i * 1 + j,none⟩ = some v) ∧ Sl w q row.length c row
theorem MS.on {w w':World} {p:Option Addr} {n B:Nat} {M:List (List Nat)} (h:MS w p n M) (hb:Below B w w') (hB:w.heap.size ≤ B):MS w' p n M:=by
  refine ⟨h.1,h.2.1,fun i row hr => ?_⟩
  obtain ⟨b,off,q,c,hp,hc,hs⟩:=h.2.2 i row hr
  refine ⟨b,off,q,c,hp,fun j v hj => ?_,hs.below hb hB⟩
  have h1:=hc j v hj
  have hlt:=World.block_lt_of_cell? w _ h1
  exact (hb.cell (p:=⟨b,off + i * 1 + j,none⟩) (Nat.lt_of_lt_of_le hlt hB)).trans h1
theorem MS.at {w w':World} {R:List Res} {p:Option Addr} {n:Nat} {M:List (List Nat)} (h:MS w p n M) (hS:Sep w R w'):MS w' p n M:=h.on hS.below (Nat.le_refl _)
theorem MS.drop {w:World} {g off n l:Nat} {M:List (List Nat)} (h:MS w (some ⟨g,off,none⟩) n M) (hl:l ≤ n):MS w (some ⟨g,off + l * 1,none⟩) (n - l) (M.drop l):=by
  refine ⟨by rw [List.length_drop,h.1],by have:=h.2.1; omega,fun i row hr => ?_⟩
  rw [List.getElem?_drop] at hr
  obtain ⟨b,o,q,c,hp,hc,hs⟩:=h.2.2 (l + i) row hr
  simp only [Option.some.injEq,Addr.mk.injEq,and_true] at hp
  obtain ⟨rfl,rfl⟩:=hp
  exact ⟨g,off + l * 1,q,c,rfl,fun j v hj => by rw [show off + l * 1 + i * 1 + j = off + (l + i) * 1 + j by omega]; exact hc j v hj,hs⟩
theorem Sep.ms {w0 w:World} {R:List Res} (hS:Sep w0 R w) (k:Nat) {p:Option Addr} {n c:Nat} {Q:List Rw} (hk:R[k]? = some (.lst 29 1 p n c (mmE Q))) (hn:n ≤ maxLen):MS w p n (nums Q):=by
 refine ⟨by rw [nums_len, ← mmE_len]; exact hS.lstLen k hk,hn,fun i row hr => ?_⟩
 obtain ⟨q,hq,rfl⟩:∃ q,Q[i]? = some q ∧ q.xs = row:=by
  unfold nums at hr
  rw [List.getElem?_map] at hr
  cases h:Q[i]? with
  | none => rw [h] at hr; cases hr
  | some q => rw [h] at hr; exact ⟨q,rfl,by simpa using hr⟩
 obtain ⟨g,hp,hc,hf⟩:=hS.rowOf k hk hq
 exact ⟨g,0,q.p,q.c,hp,hc,hf.sl⟩
section
variable {w0 w:World} {R:List Res} {m c i j n g:Nat} {p pp:Option Addr} {cc:Nat} {xs:List Nat} {Q:List Rw}
theorem Sep.mRow (h:Sep w0 R w) (k:Nat) (hk:R[k]? = some (.lst 29 1 p m c (mmE Q))) (hi:Q[i]? = some ⟨pp,cc,xs⟩) (hn:xs.length = n) (hp:p = some ⟨g,0,none⟩):w.cell? ⟨g,0 + i * 1,none⟩ = some (.slice pp n cc):=by
  obtain ⟨g',h1,h2,_⟩:=h.rowOf k hk hi
  rw [hp] at h1
  simp only [Option.some.injEq,Addr.mk.injEq,and_true] at h1
  subst h1; subst hn
  exact h2 0 _ rfl
theorem Sep.mFr (h:Sep w0 R w) (k:Nat) (hk:R[k]? = some (.lst 29 1 p m c (mmE Q))) (hi:Q[i]? = some ⟨pp,cc,xs⟩):Fr 0 w pp xs.length cc xs:=by
  obtain ⟨_,_,_,hf⟩:=h.rowOf k hk hi
  exact hf
theorem Sep.mPtr (h:Sep w0 R w) (k:Nat) (hk:R[k]? = some (.lst 29 1 p m c (mmE Q))) (hi:Q[i]? = some ⟨pp,cc,xs⟩) (h0:0 < xs.length):∃ g,pp = some ⟨g,0,none⟩:=by
  obtain ⟨g,hg,_⟩:=(h.mFr k hk hi).pos h0
  exact ⟨g,hg⟩
theorem Sep.mCell (h:Sep w0 R w) (k:Nat) (hk:R[k]? = some (.lst 29 1 p m c (mmE Q))) (hi:Q[i]? = some ⟨pp,cc,xs⟩) (hg:pp = some ⟨g,0,none⟩) (hj:j < xs.length):w.cell? ⟨g,j,none⟩ = some (.int .u32 ((nd xs j:Nat):Int)):=by
  have hf:=h.mFr k hk hi
  rw [hg] at hf
  exact hf.cellAt hj
theorem Sep.lstAt (h:Sep w0 R w) (k:Nat) {e:TypeId} {sz:Nat} {es:List El} {el:El} {off:Nat} {v:Value} (hk:R[k]? = some (.lst e sz p n c es)) (hp:p = some ⟨g,0,none⟩) (i j:Nat) (hi:es[i]? = some el) (hj:el.cs[j]? = some v) (h0:0 < sz) (ho:i * sz + j = off):w.cell? ⟨g,off,none⟩ = some v:=by
  obtain ⟨g',h1,h2,_⟩:=h.lstCell k hk hi h0
  rw [hp] at h1
  simp only [Option.some.injEq,Addr.mk.injEq,and_true] at h1
  subst h1; subst ho
  have:=h2 j v hj
  rwa [Nat.zero_add] at this
theorem Sep.lstPtr (h:Sep w0 R w) (k:Nat) {e:TypeId} {sz:Nat} {es:List El} (hk:R[k]? = some (.lst e sz p n c es)) (h0:0 < n):∃ g,p = some ⟨g,0,none⟩:=by
  obtain ⟨_,h2,h3,_⟩:=(show (Res.lst e sz p n c es).holds w from h.get k hk)
  rcases (h3 _ List.mem_cons_self).2 with ⟨hv,_⟩ | ⟨g,_,_,hg,_⟩
  · simp only [Value.slice.injEq] at hv; have:=hv.2.1; omega
  simp only [Value.slice.injEq] at hg; exact ⟨g,hg.1⟩
end
theorem Sl.el {w:World} {p:Option Addr} {n c:Nat} {xs:List Nat} (h:Sl w p n c xs) {i:Nat} (hi:i < n):∃ b off,p = some ⟨b,off,none⟩ ∧ ∀ (j:Nat) (v:Value),[Value.int .u32 ((nd xs i:Nat):Int)][j]? = some v → w.cell? ⟨b,off + i * 1 + j,none⟩ = some v:=by
  obtain ⟨b,off,hp,hc⟩:=h.cell i hi
  refine ⟨b,off,hp,fun j v hj => ?_⟩
  have h1:j = 0:=by have:=(List.getElem?_eq_some_iff.1 hj).1; simp at this; omega
  subst h1
  simp at hj
  subst hj
  rw [Nat.mul_one]; exact hc
theorem oappendR {P:Program} {o:Oper} {n:Nat} {f:Nat → Value} {w w0:World} {R:List Res} {K:Act → World → Prop} {Q':Exit → Act → World → Prop} {d:Nat} {t:TypeId} {x y:Operand} {p:Option Addr} {m c k c2:Nat} {a:Option Addr} {xs ys:List Nat}
  (hS:Sep w0 (.rowm p m c xs :: R) w) (hop:o.op = .call { callee:=.builtin .append,args:=#[x,y],argTypes:=#[t,t] }) (ho:o.dst = some d) (ht:P.underlying t = some (.slice 24)) (hi:(P.info? 24).map (fun i => (i.zero,i.size,i.bytes)) = some (some (.int .u32 0),1,4))
  (hx:(act n f).eval x = .slice p m c) (hy:(act n f).eval y = .slice a k c2) (hs:Sl w a k c2 ys) (hk:0 < k) (hm:m + k ≤ 1073741824)
  (hK:∀ p' c' w',Sep w0 (.rowm p' (m + k) c' (xs ++ ys) :: R) w' → K (act n (upd f d (.slice p' (m + k) c'))) w'):OW P o (act n f) w K Q':=by
 rcases hi':P.info? 24 with _ | i
 ·rw [hi'] at hi; cases hi
 rw [hi'] at hi
 simp only [Option.map_some,Option.some.injEq,Prod.mk.injEq] at hi
 obtain ⟨hi1,hi2,hi3⟩:=hi
 have hxl:Lims xs:=(show Fr 0 w p m c xs from hS.holds _ List.mem_cons_self).lims
 obtain ⟨hE,hle,hS'⟩:=hS.rowLst.openL
 rw [flatC_u32E,flatR_u32E,List.nil_append] at hS'
 have hown:=(show (Res.own' 24 1 p m c (xs.map fun x:Nat => Value.int .u32 (x:Int))).holds w from hS'.holds _ List.mem_cons_self)
 obtain ⟨b,off,ha,_⟩:=hs.cell 0 hk
 subst ha
 obtain ⟨p',c',w',hrun,ho',hg,hp'⟩:=run_appendAt (P:=P) (w:=w) (ty:=o.type) (c2:=c2) ht hi' hi1 hi2 hi3 rfl (by omega) hown (a:=⟨b,off,none⟩) (k:=k) (news:=ys.map fun x:Nat => Value.int .u32 (x:Int)) (by rw [List.length_map,hs.len,Nat.mul_one]) (fun j u hu => by
  have hj:j < k:=by have:=(List.getElem?_eq_some_iff.1 hu).1; rw [List.length_map,hs.len] at this; exact this
  obtain ⟨b',off',hp,hc⟩:=hs.cell j hj
  simp only [Option.some.injEq,Addr.mk.injEq,and_true] at hp
  obtain ⟨rfl,rfl⟩:=hp
  rw [Addr.add_mid,hc]
  rw [List.getElem?_map,List.getElem?_eq_getElem (by rw [hs.len]; exact hj)] at hu
  rw [nd_get (by rw [hs.len]; exact hj)]
  exact hu) (fun u hu => by obtain ⟨x,_,rfl⟩:=List.mem_map.1 hu; rfl) hk (by simp only [maxLen]; omega) (by omega)
 have hS2:=hS'.grownL hg ho' hp'
 have hfin:Sep w0 (.rowm p' (m + k) c' (xs ++ ys) :: R) w':=by
  refine Sep.lstRow (Sep.closeL (fun el hel => ?_) ?_ ?_) (hxl.append hs.lims)
  ·obtain ⟨x,_,rfl⟩:=List.mem_map.1 hel
   exact ⟨rfl,rfl,fun r hr => by cases hr⟩
  ·have h1:xs.length = m:=by simpa [u32E] using hle
   simp [u32E,h1,hs.len]
  rw [flatC_u32E,flatR_u32E,List.nil_append,List.map_append]
  exact hS2
 refine ⟨?_⟩
 have:=hK _ _ _ hfin
 unfold Oper.wp execOp
 simp only [hop,resolve,invoke,builtin,Sem.run_bind,Sem.run_pure,Result.andThen_ok,List.map_toArray,List.map_cons,List.map_nil,hx,hy,hrun]
 show K ((act n f).put o.dst _) w'
 rw [ho,act_put]
 exact this
theorem setQ {i n:Nat} {pi:Option Addr} {ci:Nat} {xi:List Nat} {Q:List Rw} (h1:xi.length = n):(mmE Q).set i ⟨[.slice pi n ci],[.rowm pi n ci xi]⟩ = mmE (Q.set i ⟨pi,ci,xi⟩):=by
  rw [mmE_set]
  unfold rwE
  simp only [h1]
def rowF (c:Nat) (f:Nat → Nat):List Nat:=(List.range c).map f
def mkM (r c:Nat) (f:Nat → Nat → Nat):List (List Nat):=(List.range r).map fun i => rowF c (f i)
theorem rowF_len (c:Nat) (f:Nat → Nat):(rowF c f).length = c:=by simp [rowF]
theorem rowF_nd {c k:Nat} {f:Nat → Nat} (h:k < c):nd (rowF c f) k = f k:=by
  unfold rowF nd
  simp [List.getD,h]
theorem mkM_S (r c:Nat) (f:Nat → Nat → Nat):mkM (r + 1) c f = mkM r c f ++ [rowF c (f r)]:=by simp [mkM,List.range_succ]
theorem mkM_len (r c:Nat) (f:Nat → Nat → Nat):(mkM r c f).length = r:=by simp [mkM]
theorem Sep.take2 {w0 w:World} {R:List Res} {m c i j n:Nat} {p pi pj:Option Addr} {ci cj:Nat} {xi xj:List Nat} {Q:List Rw} (h:Sep w0 (.lst 29 1 p m c (mmE Q) :: R) w) (hi:Q[i]? = some ⟨pi,ci,xi⟩) (hj:Q[j]? = some ⟨pj,cj,xj⟩) (hne:i ≠ j) (h1:xi.length = n) (h2:xj.length = n) :
  Sep w0 (.rowm pi n ci xi :: .rowm pj n cj xj :: .lst 29 1 p m c (((mmE Q).set i ⟨[.slice pi n ci],[]⟩).set j ⟨[.slice pj n cj],[]⟩) :: R) w:=by
 subst h1
 have a:=h.takeEl (mmE_get hi)
 have b:Sep w0 (.lst 29 1 p m c ((mmE Q).set i ⟨(rwE ⟨pi,ci,xi⟩).cs,[]⟩) :: ([.rowm pi xi.length ci xi] ++ R)) w:=a.perm (List.Perm.swap _ _ _)
 have d:=b.takeEl (i:=j) (el:=rwE ⟨pj,cj,xj⟩) (by rw [List.getElem?_set_ne hne]; exact mmE_get hj)
 have e:Sep w0 (.rowm pi xi.length ci xi :: .rowm pj xj.length cj xj :: .lst 29 1 p m c (((mmE Q).set i ⟨[.slice pi xi.length ci],[]⟩).set j ⟨[.slice pj xj.length cj],[]⟩) :: R) w:=d.perm (by
  show List.Perm (_ :: _ :: _ :: R) _
  exact ((List.Perm.swap _ _ _).cons _).trans (List.Perm.swap _ _ _))
 rwa [h2] at e
theorem swap_mm {i j n:Nat} {pi pj:Option Addr} {ci cj:Nat} {xi xj:List Nat} {Q:List Rw} {a b:El} (hne:i ≠ j) (h1:xi.length = n) (h2:xj.length = n) :
  ((((mmE Q).set i a).set j b).set i ⟨[.slice pj n cj],[.rowm pj n cj xj]⟩).set j ⟨[.slice pi n ci],[.rowm pi n ci xi]⟩ = mmE ((Q.set i ⟨pj,cj,xj⟩).set j ⟨pi,ci,xi⟩):=by
 rw [mmE_set,mmE_set,List.set_comm _ _ (Ne.symm hne),List.set_set,List.set_set]
 unfold rwE
 simp only [h1,h2]
def intE (P:List Nat):List El:=P.map fun x:Nat => ⟨[.int .i64 (x:Int)],[]⟩
def mixR (new old:List Nat) (k:Nat):List Nat:=new.take k ++ old.drop k
theorem mixR_len {new old:List Nat} {k:Nat} (h:new.length = old.length) (hk:k ≤ old.length):(mixR new old k).length = old.length:=by simp [mixR]; omega
theorem mixR_zero (new old:List Nat):mixR new old 0 = old:=by simp [mixR]
theorem mixR_full {new old:List Nat} {k:Nat} (h:new.length = old.length) (hk:old.length ≤ k):mixR new old k = new:=by
  unfold mixR; rw [List.take_of_length_le (by omega),List.drop_eq_nil_of_le hk,List.append_nil]
theorem mixR_nd {new old:List Nat} {k j:Nat} (h:new.length = old.length) (hk:k ≤ old.length):nd (mixR new old k) j = if j < k then nd new j else nd old j:=by
  unfold mixR
  rw [nd_append,List.length_take,Nat.min_eq_left (by omega)]
  split
  · rw [nd_take,if_pos (by assumption)]
  rw [nd_drop]; congr 1; omega
theorem mixR_set {new old:List Nat} {k u:Nat} (h:new.length = old.length) (hk:k < old.length) (hu:u = nd new k):(mixR new old k).set k u = mixR new old (k + 1):=by
 have hl:=mixR_len h (Nat.le_of_lt hk)
 have hl2:=mixR_len h (show k + 1 ≤ old.length by omega)
 apply nd_ext (by rw [List.length_set,hl,hl2])
 intro j hj
 rw [List.length_set,hl] at hj
 rw [nd_set _ _ _ _ (by omega),mixR_nd h (by omega),mixR_nd h (by omega)]
 by_cases e:j = k
 ·subst e; rw [if_pos rfl,if_pos (by omega),hu]
 rw [if_neg e]
 by_cases e2:j < k
 ·rw [if_pos e2,if_pos (by omega)]
 rw [if_neg e2,if_neg (by omega)]
theorem fill1_1s {u a:Value} (hu:u.cells = #[u]) (ha:a.cells = #[a]):Instr.fill (fun i => some (i * 1,1)) ((Array.range (1 * 1)).map (u.cells[· % u.cells.size]!)) #[(0,a)].toList = some [a].toArray:=by
 rw [hu]
 simp [Instr.fill,ha,Array.range]
 apply Array.ext
 ·simp
 intro i h1 h2
 have h3:i = 0:=by simp at h2; omega
 subst h3; simp
theorem infoRow:(Tryd.prog.info? 29).map (fun i => (i.zero,i.size,i.bytes)) = some (some (.slice none 0 0),1,24):=by kernel_rfl
theorem qmix_next {Q:List Rw} {r k u:Nat} {p:Option Addr} {c:Nat} {new old:List Nat} (h:new.length = old.length) (hk:k < old.length) (hu:u = nd new k):(Q.set r ⟨p,c,mixR new old k⟩).set r ⟨p,c,(mixR new old k).set k u⟩ = Q.set r ⟨p,c,mixR new old (k + 1)⟩:=by
  rw [List.set_set,mixR_set h hk hu]
theorem qset_self {Q:List Rw} {r:Nat} {q q':Rw} (h:Q[r]? = some q):(Q.set r q')[r]? = some q':=List.getElem?_set_self (List.getElem?_eq_some_iff.1 h).1
theorem qmix0 {Q:List Rw} {r:Nat} {p:Option Addr} {c:Nat} {new old:List Nat} (h:Q[r]? = some ⟨p,c,old⟩):Q.set r ⟨p,c,mixR new old 0⟩ = Q:=by
  rw [mixR_zero]
  apply List.ext_getElem?
  intro j
  by_cases e:j = r
  · subst e; rw [qset_self h,h]
  rw [List.getElem?_set_ne (fun h => e h.symm)]
theorem mmE_snoc {Q:List Rw} {p:Option Addr} {n c:Nat} {xs:List Nat} (h:xs.length = n):mmE Q ++ [⟨[.slice p n c],[.rowm p n c xs]⟩] = mmE (Q ++ [⟨p,c,xs⟩]):=by
  subst h; rw [mmE_app]; rfl
end Go.Proofs.YtcfcdbeemhjhgaaDoor
