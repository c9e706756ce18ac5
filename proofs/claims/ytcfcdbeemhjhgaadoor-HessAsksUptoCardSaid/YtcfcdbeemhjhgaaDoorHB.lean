/-
  Contracts and lemmas, joined in one text.
-/
import Derived.Test.YtcfcdbeemhjhgaaDoorHA
import Derived.Test.YtcfcdbeemhjhgaaDoorHs3
set_option linter.unusedVariables false
set_option linter.unusedSimpArgs false
/-
  Polynomials modulo a prime,and the polynomial of a Hessenberg matrix,plainly,as the program reckons them.
-/
set_option maxRecDepth 100000
set_option maxHeartbeats 16000000
namespace Go.Proofs.YtcfcdbeemhjhgaaDoor
open Go.RowKit
def topN (xs:List Nat):Nat → Nat
  | 0 => 0
  | n + 1 => if nd xs n = 0 then topN xs n else n + 1
def trimL (xs:List Nat):List Nat:=xs.take (topN xs xs.length)
theorem topN_le (xs:List Nat):∀ n,topN xs n ≤ n
  | 0 => Nat.le_refl _
  | n + 1 => by rw [topN]; have:=topN_le xs n; split <;> omega
theorem trimL_len (xs:List Nat):(trimL xs).length = topN xs xs.length:=by
  unfold trimL; rw [List.length_take]; have:=topN_le xs xs.length; omega
theorem trimL_le (xs:List Nat):(trimL xs).length ≤ xs.length:=by rw [trimL_len]; exact topN_le ..
theorem topN_zero {xs:List Nat}:∀ {n i:Nat},topN xs n ≤ i → i < n → nd xs i = 0
 | 0,_,_,h => by omega
 | n + 1,i,h,hi => by
  rw [topN] at h
  split at h
  ·rename_i h0
   by_cases e:i = n
   ·subst e; exact h0
   exact topN_zero h (by omega)
  omega
theorem trimL_nd (xs:List Nat) (i:Nat):nd (trimL xs) i = nd xs i:=by
 by_cases h:i < topN xs xs.length
 ·unfold trimL; unfold nd; rw [List.getD,List.getD,List.getElem?_take,if_pos h]
 rw [nd_lt_len (by rw [trimL_len]; omega)]
 by_cases h2:i < xs.length
 ·exact (topN_zero (by omega) h2).symm
 exact (nd_lt_len (by omega)).symm
theorem trimL_lt {p:Nat} {xs:List Nat} (h:∀ x ∈ xs,x < p):∀ x ∈ trimL xs,x < p:=fun x hx => h x (List.mem_of_mem_take hx)
theorem trimL_self {xs:List Nat} (h:xs = [] ∨ nd xs (xs.length - 1) ≠ 0):trimL xs = xs:=by
 rcases h with rfl | h
 ·rfl
 unfold trimL
 cases hx:xs.length with
 | zero => rw [List.length_eq_zero_iff.1 hx]; rfl
 | succ n => rw [topN,if_neg (by rw [hx] at h; exact h), ← hx,List.take_length]
def normP (p:Nat) (a:List Nat):List Nat:=trimL (a.map (· % p))
def scaleP (p:Nat) (a:List Nat) (c:Nat):List Nat:=trimL ((normP p a).map (· * (c % p) % p))
def subL (p:Nat) (a b:List Nat):List Nat:=rowF (max a.length b.length) fun i => (nd a i + p - nd b i) % p
def subP (p:Nat) (a b:List Nat):List Nat:=trimL (subL p (normP p a) (normP p b))
def shiftP (p:Nat) (a:List Nat):List Nat:=if normP p a = [] then [] else 0 :: normP p a
def inP (p:Nat) (H P:List (List Nat)) (k:Nat):Nat → List Nat × Nat
  | 0 => (subP p (shiftP p (P.getD k [])) (scaleP p (P.getD k []) (nd (H.getD k []) k)),1)
  | d + 1 => (subP p (inP p H P k d).1 (scaleP p (P.getD (k - 1 - d) []) ((inP p H P k d).2 * nd (H.getD (k - 1 - d + 1) []) (k - 1 - d) % p * nd (H.getD (k - 1 - d) []) k % p)),(inP p H P k d).2 * nd (H.getD (k - 1 - d + 1) []) (k - 1 - d) % p)
def polysL (p:Nat) (H:List (List Nat)):Nat → List (List Nat)
  | 0 => [[1 % p]]
  | k + 1 => polysL p H k ++ [(inP p H (polysL p H k) k k).1]
def charL (p:Nat) (M:List (List Nat)):List Nat:=(polysL p (HS.red p M.length M (M.length - 2)).H M.length).getD M.length []
theorem polysL_len (p:Nat) (H:List (List Nat)):∀ k,(polysL p H k).length = k + 1
  | 0 => rfl
  | k + 1 => by rw [polysL,List.length_append,polysL_len p H k]; rfl
theorem normP_lt {p:Nat} (hp:0 < p) (a:List Nat):∀ x ∈ normP p a,x < p:=trimL_lt fun x hx => by
  obtain ⟨y,_,rfl⟩:=List.mem_map.1 hx; exact Nat.mod_lt _ hp
theorem subP_lt {p:Nat} (hp:0 < p) (a b:List Nat):∀ x ∈ subP p a b,x < p:=trimL_lt fun x hx => by
  obtain ⟨y,_,rfl⟩:=List.mem_map.1 hx; exact Nat.mod_lt _ hp
theorem normP_len (p:Nat) (a:List Nat):(normP p a).length ≤ a.length:=by
  have:=trimL_le (a.map (· % p)); rwa [List.length_map] at this
theorem scaleP_len (p:Nat) (a:List Nat) (c:Nat):(scaleP p a c).length ≤ a.length:=by
  have:=trimL_le ((normP p a).map (· * (c % p) % p)); rw [List.length_map] at this; have:=normP_len p a; unfold scaleP; omega
theorem subP_len (p:Nat) (a b:List Nat):(subP p a b).length ≤ max a.length b.length:=by
  have:=trimL_le (subL p (normP p a) (normP p b)); rw [subL,rowF_len] at this; have:=normP_len p a; have:=normP_len p b; unfold subP subL; omega
theorem shiftP_len (p:Nat) (a:List Nat):(shiftP p a).length ≤ a.length + 1:=by
  unfold shiftP; split
  · exact Nat.zero_le _
  have:=normP_len p a; simp; omega
theorem inP_len {p:Nat} {H P:List (List Nat)} {k:Nat} (h:∀ i,i ≤ k → (P.getD i []).length ≤ i + 1):∀ d,d ≤ k → (inP p H P k d).1.length ≤ k + 2
 | 0,_ => by
  rw [inP]
  have h1:=subP_len p (shiftP p (P.getD k [])) (scaleP p (P.getD k []) (nd (H.getD k []) k)); have h2:=shiftP_len p (P.getD k []); have h3:=scaleP_len p (P.getD k []) (nd (H.getD k []) k); have:=h k (Nat.le_refl _)
  simp only; omega
 | d + 1,hd => by
  rw [inP]
  have ih:=inP_len (p:=p) (H:=H) h d (by omega)
  have h1:=subP_len p (inP p H P k d).1 (scaleP p (P.getD (k - 1 - d) []) ((inP p H P k d).2 * nd (H.getD (k - 1 - d + 1) []) (k - 1 - d) % p * nd (H.getD (k - 1 - d) []) k % p))
  have h3:=scaleP_len p (P.getD (k - 1 - d) []) ((inP p H P k d).2 * nd (H.getD (k - 1 - d + 1) []) (k - 1 - d) % p * nd (H.getD (k - 1 - d) []) k % p)
  have:=h (k - 1 - d) (by omega)
  simp only; omega
theorem polysL_at {p:Nat} {H:List (List Nat)}:∀ (k:Nat) {i:Nat},i ≤ k → (polysL p H (k + 1)).getD i [] = (polysL p H k).getD i []:=fun k i h => by
  rw [polysL,List.getD,List.getD,List.getElem?_append_left (by rw [polysL_len]; omega)]
theorem polysL_last {p:Nat} {H:List (List Nat)} (k:Nat):(polysL p H (k + 1)).getD (k + 1) [] = (inP p H (polysL p H k) k k).1:=by
  rw [polysL,List.getD,List.getElem?_append_right (by rw [polysL_len]; omega),polysL_len]; simp
theorem polysL_lens {p:Nat} {H:List (List Nat)}:∀ (k:Nat) {i:Nat},i ≤ k → ((polysL p H k).getD i []).length ≤ i + 1
 | 0,0,_ => by simp [polysL]
 | k + 1,i,h => by
  by_cases e:i ≤ k
  ·rw [polysL_at k e]; exact polysL_lens k e
  obtain rfl:i = k + 1:=by omega
  rw [polysL_last]; exact inP_len (fun i hi => polysL_lens k hi) k (Nat.le_refl _)
theorem inP_c {p:Nat} (hp:1 < p) {H P:List (List Nat)} {k:Nat}:∀ d,(inP p H P k d).2 < p
  | 0 => by rw [inP]; exact hp
  | d + 1 => by rw [inP]; exact Nat.mod_lt _ (by omega)
theorem inP_lt {p:Nat} (hp:0 < p) {H P:List (List Nat)} {k:Nat}:∀ d, ∀ x ∈ (inP p H P k d).1,x < p
  | 0 => by rw [inP]; exact subP_lt hp _ _
  | d + 1 => by rw [inP]; exact subP_lt hp _ _
theorem polysL_lt {p:Nat} (hp:0 < p) {H:List (List Nat)}:∀ (k:Nat) {i:Nat},i ≤ k → ∀ x ∈ (polysL p H k).getD i [],x < p
 | 0,0,_ => fun x hx => by
  simp [polysL] at hx; subst hx; exact Nat.mod_lt _ hp
 | k + 1,i,h => by
  by_cases e:i ≤ k
  ·rw [polysL_at k e]; exact polysL_lt hp k e
  obtain rfl:i = k + 1:=by omega
  rw [polysL_last]; exact inP_lt hp k
open Go.RowKit
def Res.rdo (p:Option Addr) (n c:Nat) (xs:List Nat):Res where
  own:=true
  arg:=false
  foot k:=0 < n ∧ ∃ o,p = some ⟨k,o,none⟩
  holds w:=Sl w p n c xs
  lt w h k hk:=(Res.rd p n c xs).lt w h k hk
  stays w w' he h:=(Res.rd p n c xs).stays w w' he h
section
variable {w0 w:World} {R:List Res} {p:Option Addr} {n c k:Nat} {xs:List Nat}
theorem Sep.slo (h:Sep w0 R w) (i:Nat) (hi:R[i]? = some (.rdo p n c xs)):Sl w p n c xs:=h.get i hi
theorem Sep.repl {r s:Res} (h:Sep w0 (r :: R) w) (hs:s.holds w) (ho:s.own = true → r.own = true) (ha:s.arg = false → r.arg = false) (hf:∀ g,s.foot g → r.foot g):Sep w0 (s :: R) w:=by
 refine ⟨h.below,fun q hq => ?_,fun q hq ha' g hg => ?_,?_⟩
 ·rcases List.mem_cons.1 hq with rfl | hq
  ·exact hs
  exact h.holds q (List.mem_cons_of_mem _ hq)
 ·rcases List.mem_cons.1 hq with rfl | hq
  ·exact h.low _ List.mem_cons_self (ha ha') g (hf g hg)
  exact h.low q (List.mem_cons_of_mem _ hq) ha' g hg
 have hap:=List.pairwise_cons.1 h.apart
 refine List.pairwise_cons.2 ⟨fun q hq he g hg hq' => hap.1 q hq ?_ g (hf g hg) hq',hap.2⟩
 rcases hso:s.own with _ | _
 ·rw [hso] at he; simp at he; rw [he]; simp
 rw [ho hso]; rfl
theorem Fr.ptr0 {B:Nat} {k o:Nat} (h:Fr B w p n c xs) (hp:p = some ⟨k,o,none⟩):o = 0:=by
  rcases h.own.2 with h1 | ⟨g,cap,cur,h1,_⟩
  · simp only [Value.slice.injEq] at h1; rw [hp] at h1; simp at h1
  simp only [Value.slice.injEq] at h1; rw [hp] at h1; simp at h1; exact h1.1.2
theorem Fr.cut {B:Nat} (h:Fr B w p n c xs) (hk:k ≤ n):Fr B w p k c (xs.take k):=by
 have hl:=h.len
 refine ⟨by rw [List.length_take]; omega,fun i hi => ?_,by rw [List.length_map,List.length_take]; omega,?_⟩
 ·rw [List.length_take] at hi
  have:=h.lims.all i
  rw [show nd (xs.take k) i = nd xs i by unfold nd; rw [List.getD,List.getD,List.getElem?_take,if_pos (by omega)]]; exact this
 rcases h.own.2 with ⟨h1,h2⟩ | ⟨g,cap,cur,h1,h2,h3,h4,h5,h6,h7⟩
 ·refine .inl ⟨?_,by omega⟩
  simp only [Value.slice.injEq] at h1 ⊢
  exact ⟨h1.1,by omega,h1.2.2⟩
 simp only [Value.slice.injEq] at h1
 refine .inr ⟨g,cap,cur,by simp only [Value.slice.injEq]; exact ⟨h1.1,trivial,h1.2.2⟩,h2,h3,by omega,h5,h6,?_⟩
 rw [List.map_take, ← h7,List.take_take]; congr 1; omega
theorem Sep.cutRow (h:Sep w0 (.rowm p n c xs :: R) w) (hk:k ≤ n):Sep w0 (.rowm p k c (xs.take k) :: R) w :=
  h.repl ((show Fr 0 w p n c xs from h.holds _ List.mem_cons_self).cut hk) (fun _ => rfl) (fun _ => rfl) fun _ hg => hg
theorem Sep.toRdo (h:Sep w0 (.rowm p n c xs :: R) w):Sep w0 (.rdo (if n = 0 then none else p) n n xs :: R) w:=by
 have hf:Fr 0 w p n c xs:=h.holds _ List.mem_cons_self
 have hs:=hf.sl
 refine h.repl ?_ (fun _ => rfl) (fun _ => rfl) fun g hg => ?_
 ·show Sl w _ n n xs
  by_cases h0:n = 0
  ·subst h0
   rw [if_pos rfl,List.length_eq_zero_iff.1 hs.len]; exact Sl.nil w
  rw [if_neg h0]
  exact ⟨hs.len,Nat.le_refl _,by have:=hs.le; have:=hs.cap; omega,hs.lims,fun hp => by have:=hs.isnil hp; have:=hs.le; omega,hs.cell⟩
 obtain ⟨hn,o,hp⟩:=hg
 rw [if_neg (by omega)] at hp
 have:=hf.ptr0 hp
 subst this; exact hp
theorem Sep.rdoN (h:Sep w0 R w):Sep w0 (.rdo none 0 0 [] :: R) w :=
 ⟨h.below,fun r hr => by
  rcases List.mem_cons.1 hr with rfl | hr
  ·exact Sl.nil w
  ·exact h.holds r hr,fun r hr ha g hg => by
  rcases List.mem_cons.1 hr with rfl | hr
  ·exact absurd hg.1 (by omega)
  exact h.low r hr ha g hg,List.pairwise_cons.2 ⟨fun s hs _ g hg _ => absurd hg.1 (by omega),h.apart⟩⟩
end
def Rwt (xs:List Nat):Tell:=fun v r => ∃ (pp:Option Addr) (c:Nat),v = .slice pp xs.length c ∧ r = [.rowm pp xs.length c xs]
def PEt (xs:List Nat) (e:Int):Tell:=fun v r => ∃ (pp:Option Addr) (c:Nat),v = .tuple #[.slice pp xs.length c,.int .i64 e] ∧ r = [.rdo pp xs.length c xs]
def rdE (q:Rw):El:=⟨[.slice q.p q.xs.length q.c],[.rdo q.p q.xs.length q.c q.xs]⟩
def ppE (Q:List Rw):List El:=Q.map rdE
theorem ppE_get {Q:List Rw} {i:Nat} {q:Rw} (h:Q[i]? = some q):(ppE Q)[i]? = some (rdE q):=by simp [ppE,h]
theorem pp_snoc {Q:List Rw} {p:Option Addr} {n c:Nat} {xs:List Nat} (h:xs.length = n):ppE Q ++ [⟨[.slice p n c],[.rdo p n c xs]⟩] = ppE (Q ++ [⟨p,c,xs⟩]):=by subst h; simp [ppE,rdE]
theorem Sep.ppSl {w0 w:World} {R:List Res} {t:TypeId} {p pp:Option Addr} {n c cc i:Nat} {xs:List Nat} {Q:List Rw} (h:Sep w0 R w) (k:Nat) (hk:R[k]? = some (.lst t 1 p n c (ppE Q))) (hi:Q[i]? = some ⟨pp,cc,xs⟩):Sl w pp xs.length cc xs:=by
  have hh:=(show (Res.lst t 1 p n c (ppE Q)).holds w from h.get k hk).2.2.1
  refine hh (.rdo pp xs.length cc xs) (List.mem_cons_of_mem _ (List.mem_flatMap.2 ⟨rdE ⟨pp,cc,xs⟩,List.mem_of_getElem? (ppE_get hi),?_⟩))
  exact List.mem_singleton.2 rfl
section
variable {P:Program} {o:Oper} {n:Nat} {f:Nat → Value} {w w0:World} {R:List Res} {K:Act → World → Prop} {Q:Exit → Act → World → Prop} {d:Nat} {t e:TypeId}
theorem osliceT {x hi:Operand} {g off m c h sz:Nat} {p:Option Addr} (hop:o.op = .slice t x none (some hi) none) (ho:o.dst = some d) (ht:P.underlying t = some (.slice e)) (hs:∀ w,(sizeOf e).run P w = .ok sz w)
  (hx:(act n f).eval x = .slice p m c) (hp:p = some ⟨g,off,none⟩) (hh:(act n f).eval hi = .int .i64 (h:Int)) (h2:h ≤ c)
  (hK:K (act n (upd f d (.slice p h c))) w):OW P o (act n f) w K Q:=by
 have he:P.elem t = e:=by simp [Program.elem,ht]
 refine oval ho ?_ rfl hK
 have h3:(Instr.slice t (.slice p m c) none (some (.int .i64 (h:Int))) none).run P w = .ok (.slice p h c) w:=by
  rw [run_slice_h w t _ m c (by rw [he]; exact ht) .i64 (h:Int) (by omega) (by omega),he,hs,Result.andThen_ok]
  subst hp
  have e0:(⟨g,off,none⟩:Addr).add 0 = ⟨g,off,none⟩:=rfl
  simp [sliced,e0]
 simp [execOp,hop,hx,hh,h3,run_sliceAt_slice w t _ _ _ _ (by rw [he]; exact ht)]
theorem osliceF {x hi mx:Operand} {g off m c h sz:Nat} {p:Option Addr} (hop:o.op = .slice t x none (some hi) (some mx)) (ho:o.dst = some d) (ht:P.underlying t = some (.slice e)) (hs:∀ w,(sizeOf e).run P w = .ok sz w)
  (hx:(act n f).eval x = .slice p m c) (hp:p = some ⟨g,off,none⟩) (hh:(act n f).eval hi = .int .i64 (h:Int)) (hm:(act n f).eval mx = .int .i64 (h:Int)) (h2:h ≤ c)
  (hK:K (act n (upd f d (.slice p h h))) w):OW P o (act n f) w K Q:=by
 have he:P.elem t = e:=by simp [Program.elem,ht]
 refine oval ho ?_ rfl hK
 have h3:(Instr.slice t (.slice p m c) none (some (.int .i64 (h:Int))) (some (.int .i64 (h:Int)))).run P w = .ok (.slice p h h) w:=by
  rw [run_slice_hm w t _ m c (by rw [he]; exact ht) .i64 .i64 (h:Int) (h:Int) (by omega) (by omega) (by omega),he,hs,Result.andThen_ok]
  subst hp
  have e0:(⟨g,off,none⟩:Addr).add 0 = ⟨g,off,none⟩:=rfl
  simp [sliced,e0]
 simp [execOp,hop,hx,hh,hm,h3,run_sliceAt_slice w t _ _ _ _ (by rw [he]; exact ht)]
end
theorem MS.of1 {w:World} {g:Nat} {pa:Option Addr} {na ca:Nat} {a:List Nat} {t:TypeId} (hb:w.heap[g]? = some (.cells [.slice pa na ca].toArray t)) (ha:Sl w pa na ca a):MS w (some ⟨g,0,none⟩) 1 [a]:=by
 have hl:=ha.len
 refine ⟨rfl,by simp [maxLen],fun i row hi => ?_⟩
 match i,hi with
 | 0,hi =>
  obtain rfl:a = row:=by simpa using hi
  refine ⟨g,0,pa,ca,rfl,fun j v hj => ?_,by rw [hl]; exact ha⟩
  match j,hj with
  | 0,hj => exact (blk_cell hb 0).trans (by rw [← hl]; exact hj)
theorem MS.of2 {w:World} {g:Nat} {pa pb:Option Addr} {na ca nb cb:Nat} {a b:List Nat} {t:TypeId} (hg:w.heap[g]? = some (.cells [.slice pa na ca,.slice pb nb cb].toArray t)) (ha:Sl w pa na ca a) (hb:Sl w pb nb cb b):MS w (some ⟨g,0,none⟩) 2 [a,b]:=by
 have hl:=ha.len
 have hl2:=hb.len
 refine ⟨rfl,by simp [maxLen],fun i row hi => ?_⟩
 match i,hi with
 | 0,hi =>
  obtain rfl:a = row:=by simpa using hi
  refine ⟨g,0,pa,ca,rfl,fun j v hj => ?_,by rw [hl]; exact ha⟩
  match j,hj with
  | 0,hj => exact (blk_cell hg 0).trans (by rw [← hl]; exact hj)
 | 1,hi =>
  obtain rfl:b = row:=by simpa using hi
  refine ⟨g,0,pb,cb,rfl,fun j v hj => ?_,by rw [hl2]; exact hb⟩
  match j,hj with
  | 0,hj => exact (blk_cell hg 1).trans (by rw [← hl2]; exact hj)
theorem topN_step {xs:List Nat} {m:Nat} (h0:m ≠ 0) (h:nd xs (m - 1) = 0):topN xs m = topN xs (m - 1):=by
  obtain ⟨k,rfl⟩:∃ k,m = k + 1:=⟨m - 1,by omega⟩
  rw [topN]; exact if_pos (show nd xs k = 0 from h)
theorem topN_stop {xs:List Nat} {m:Nat} (h:m = 0 ∨ nd xs (m - 1) ≠ 0):topN xs m = m:=by
 cases m with
 | zero => rfl
 | succ k =>
  rw [topN]
  exact if_neg (show ¬ nd xs k = 0 from h.resolve_left (by omega))
def Rwn (n:Nat) (xs:List Nat):Tell:=fun v r => ∃ (pp:Option Addr) (c:Nat),v = .slice pp n c ∧ r = [.rowm pp n c xs]
def all1 (p n:Nat) (M:List (List Nat)):Tell:=fun v r => ∃ (pp:Option Addr) (c:Nat) (Q:List Rw),nums Q = M ∧ v = .tuple #[.agg #[.int .u64 ((p:Nat):Int)],.slice pp n c,.int .i64 0] ∧ r = [.lst 29 1 pp n c (mmE Q)]
theorem all_next {p i m:Nat} {As:List (List Nat)} {a:List Nat} {Q:List Rw} {pp:Option Addr} {c:Nat} (ha:As[i]? = some a) (hq:nums Q = (As.take i).map (normP p) ++ List.replicate (m + 1) []):nums (Q.set i ⟨pp,c,normP p a⟩) = (As.take (i + 1)).map (normP p) ++ List.replicate m []:=by
  have hi:i < As.length:=(List.getElem?_eq_some_iff.1 ha).1
  have hl:((As.take i).map (normP p)).length = i:=by rw [List.length_map,List.length_take]; omega
  rw [nums_set,hq,List.set_append_right _ _ (by omega),hl,Nat.sub_self,List.replicate_succ,List.set_cons_zero,take_next ha,List.map_append,List.append_assoc]; rfl
theorem trimL_take {xs:List Nat} {n:Nat} (h:xs.length = n):xs.take (topN xs n) = trimL xs:=by subst h; rfl
theorem infoModPoly:(Tryd.prog.info? 30).map (fun i => (i.zero,i.size,i.bytes)) = some (some (.slice none 0 0),1,24):=by kernel_rfl
theorem Sep.blkRowH {w0 w:World} {R:List Res} {g x:Nat} (h:Sep w0 (.blk g [.int .u32 ((x:Nat):Int)] 24 :: R) w) (hx:x < 4294967296):Sep w0 (.rowm (some ⟨g,0,none⟩) 1 1 [x] :: R) w:=by
 have h1:=h.ofBlk (sz:=1) (m:=1) (cap:=1) (Nat.le_refl _) (by simp [maxLen]) rfl
 have h2:Sep w0 (.lst 24 1 (some ⟨g,0,none⟩) 1 1 (u32E [x]) :: R) w:=Sep.closeL (fun el hel => by rw [List.mem_singleton.1 hel]; exact ⟨rfl,rfl,fun r hr => by cases hr⟩) rfl h1
 exact h2.lstRow fun i hi => by
  match i,hi with
  | 0,_ => exact hx
theorem Sep.blkPP {w0 w:World} {R:List Res} {g n c:Nat} {t:TypeId} {p:Option Addr} {xs:List Nat} (h:Sep w0 (.blk g [.slice p n c] t :: .rdo p n c xs :: R) w) (hn:xs.length = n):Sep w0 (.lst t 1 (some ⟨g,0,none⟩) 1 1 (ppE [⟨p,c,xs⟩]) :: R) w:=by
  subst hn
  have h1:=h.ofBlk (sz:=1) (m:=1) (cap:=1) (Nat.le_refl _) (by simp [maxLen]) rfl
  exact Sep.closeL (fun el hel => by rw [List.mem_singleton.1 hel]; exact ⟨rfl,rfl,fun r hr => by rw [List.mem_singleton.1 hr]; exact ⟨rfl,rfl⟩⟩) rfl h1
theorem fill1_2h {p q:Option Addr} {n c m d:Nat}:Instr.fill (fun i => some (i * 1,1)) ((Array.range (2 * 1)).map ((Value.slice none 0 0).cells[· % (Value.slice none 0 0).cells.size]!)) #[(0,.slice p n c),(1,.slice q m d)].toList = some [Value.slice p n c,Value.slice q m d].toArray:=by
 simp [Instr.fill,Value.cells,Array.range]
 apply Array.ext
 ·simp
 intro i h1 h2
 have h3:i = 0 ∨ i = 1:=by simp at h2; omega
 rcases h3 with rfl | rfl <;> simp
open Go.RowKit
theorem wytrim {p:Option Addr} {n c:Nat} {xs:List Nat} {w:World} (hx:Sl w p n c xs) :
  Calls Tryd.prog 73 #[.slice p n c] w (Ret (Is (.slice p (topN xs n) c)) w):=by
 have hle:=hx.le
 have hcap:=hx.cap
 simp only [maxLen] at hcap
 have hS:=Sep.init w
 refine went Tryd.func73 rfl (n:=23) rfl rfl ?_
 refine wsr (wavc ?_)
 refine wn2 (wavc ?_)
 refine wn1 (wSq (wBk ?_))
 refine wLp (σ := Nat) (fun m a9 w' => ∃ (fb:Nat → Value),a9 = act 23 (sets fb [(0,.slice p m c),(2,.slice none 0 0),(3,.int .u32 0)]) ∧ Sep w [] w' ∧ (m ≤ n ∧ topN xs m = topN xs n)) (fun m => m) (n) ⟨_,aSs ⟨rfl,rfl,rfl,trivial⟩,hS,⟨Nat.le_refl _,rfl⟩⟩ ?_
 clear hS; rintro m _ w1 ⟨fb,rfl,hS,hm⟩
 refine wSq (wsr (wmv (v:=.slice p m c) rfl rfl ?_))
 refine wl rfl (olen rfl rfl rfl Tryd.runUnderlying29 (p:=p) (k:=m) (m:=c) (ev rfl rfl) ?_)
 by_cases hm0:0 < m
 ·
  refine wbc (u:=.int .i64 (m:Int)) (v:=.int .i64 0) rfl rfl (bin_gtr (decide_eq_true (by omega))) ?_
  refine wmv (v:=.bool true) rfl rfl ?_
  refine wlOn (e:=7) rfl rfl rfl rfl (omove (v:=.slice p m c) rfl rfl (ev rfl rfl) ?_)
  refine wlOn (e:=7) rfl rfl rfl rfl (omove (v:=.slice p m c) rfl rfl (ev rfl rfl) ?_)
  refine wlOn (e:=7) rfl rfl rfl rfl (olen rfl rfl rfl Tryd.runUnderlying29 (p:=p) (k:=m) (m:=c) (ev rfl rfl) ?_)
  refine wlOn (e:=7) rfl rfl rfl rfl (obin (u:=.int .i64 (m:Int)) (v:=.int .i64 1) (z:=.int .i64 ((m - 1:Nat):Int)) rfl rfl (ev rfl rfl) evc (bin_sub (by rw [show (m:Int) - 1 = ((m - 1:Nat):Int) by omega]; exact wI6 (by omega) (by omega))) ?_)
  obtain ⟨bce,oce,hpce,hcce⟩:=hx.el (show m - 1 < n by omega)
  refine wlOn (e:=7) rfl rfl rfl rfl (oIx (p:=p) (g:=bce) (off:=oce) (m:=m) (k:=m - 1) (j:=(oce + (m - 1) * 1)) rfl rfl Tryd.runUnderlying29 Tryd.sizeOf24 (ev rfl rfl) hpce (ev rfl rfl) (by omega) rfl ?_)
  refine wlOn (e:=7) rfl rfl rfl rfl (oLc (v:=.int .u32 (((nd xs (m - 1):Nat):Int))) one32 rfl rfl (ev (v:=.pointer (some ⟨bce,(oce + (m - 1) * 1),none⟩)) rfl rfl) (hS.cellAt (hcce 0 _ rfl)) ?_)
  refine wlOn (e:=7) rfl rfl rfl rfl (omove (v:=.int .u32 0) rfl rfl (ev rfl rfl) ?_)
  by_cases hz:nd xs (m - 1) = 0
  ·
   refine wlOn (e:=7) rfl rfl rfl rfl (obin (u:=.int .u32 (((nd xs (m - 1):Nat):Int))) (v:=.int .u32 0) (z:=.bool true) rfl rfl (ev rfl rfl) (ev rfl rfl) (bEq (eqT (by omega))) ?_)
   refine wl rfl (opick (b:=true) (v:=.bool true) rfl rfl (ev rfl rfl) (ev rfl rfl) ?_)
   refine wn1 ?_
   refine wT (ev rfl rfl) ?_
   refine wSk (tNo (wBk (wreg (wmv (v:=.slice p m c) rfl rfl ?_))))
   refine wmv (v:=.slice p m c) rfl rfl ?_
   refine wl rfl (olen rfl rfl rfl Tryd.runUnderlying29 (p:=p) (k:=m) (m:=c) (ev rfl rfl) ?_)
   refine wbc (u:=.int .i64 (m:Int)) (v:=.int .i64 1) (z:=.int .i64 ((m - 1:Nat):Int)) rfl rfl (bin_sub (by rw [show (m:Int) - 1 = ((m - 1:Nat):Int) by omega]; exact wI6 (by omega) (by omega))) ?_
   refine wl rfl (osliceT (g:=bce) (off:=oce) (m:=m) (c:=c) (h:=(m - 1)) rfl rfl Tryd.underlying29 Tryd.sizeOf24 (ev (v:=.slice p m c) rfl rfl) hpce (ev (v:=.int .i64 ((m - 1:Nat):Int)) rfl rfl) (by omega) ?_)
   refine wav (v:=.slice p (m - 1) c) rfl rfl ?_
   refine wnil (blkN (tNo ?_))
   exact ⟨(m - 1),⟨_,aSs ⟨rfl,rfl,rfl,trivial⟩,hS.pick [] (by decide) rfl,⟨by omega,by rw [← topN_step (by omega) hz]; exact hm.2⟩⟩,by omega⟩
  refine wlOn (e:=7) rfl rfl rfl rfl (obin (u:=.int .u32 (((nd xs (m - 1):Nat):Int))) (v:=.int .u32 0) (z:=.bool false) rfl rfl (ev rfl rfl) (ev rfl rfl) (bEq (eqF (by omega))) ?_)
  refine wl rfl (opick (b:=true) (v:=.bool false) rfl rfl (ev rfl rfl) (ev rfl rfl) ?_)
  refine wn1 ?_
  refine wF (ev rfl rfl) ?_
  refine wEx ?_
  refine tEx ?_
  refine tEx ?_
  refine blkE ?_
  refine tNo (wsr (wmv (v:=.slice p m c) rfl rfl ?_))
  refine wav (v:=.slice p m c) rfl rfl ?_
  refine wn1 ?_
  refine wLv ?_
  refine wr1 Tryd.results73 (tlT (v:=.slice p m c) rfl rfl) ?_
  exact ⟨_,_,rfl,⟨by rw [← hm.2,topN_stop (.inr hz)],rfl⟩,hS.new0⟩
 refine wbc (u:=.int .i64 (m:Int)) (v:=.int .i64 0) rfl rfl (bin_gtr (decide_eq_false (by omega))) ?_
 refine wmv (v:=.bool false) rfl rfl ?_
 refine wlOff (e:=7) (d:=8) (b':=false) rfl rfl rfl rfl rfl rfl ?_
 refine wlOff (e:=7) (d:=9) (b':=false) rfl rfl rfl rfl rfl rfl ?_
 refine wlOff (e:=7) (d:=10) (b':=false) rfl rfl rfl rfl rfl rfl ?_
 refine wlOff (e:=7) (d:=11) (b':=false) rfl rfl rfl rfl rfl rfl ?_
 refine wlOff (e:=7) (d:=12) (b':=false) rfl rfl rfl rfl rfl rfl ?_
 refine wlOff (e:=7) (d:=13) (b':=false) rfl rfl rfl rfl rfl rfl ?_
 refine wlOff (e:=7) (d:=14) (b':=false) rfl rfl rfl rfl rfl rfl ?_
 refine wlOff (e:=7) (d:=15) (b':=false) rfl rfl rfl rfl rfl rfl ?_
 refine wl rfl (opick (b:=false) (v:=.bool false) rfl rfl (ev rfl rfl) evc ?_)
 refine wn1 ?_
 refine wF (ev rfl rfl) ?_
 refine wEx ?_
 refine tEx ?_
 refine tEx ?_
 refine blkE ?_
 refine tNo (wsr (wmv (v:=.slice p m c) rfl rfl ?_))
 refine wav (v:=.slice p m c) rfl rfl ?_
 refine wn1 ?_
 refine wLv ?_
 refine wr1 Tryd.results73 (tlT (v:=.slice p m c) rfl rfl) ?_
 exact ⟨_,_,rfl,⟨by rw [← hm.2,topN_stop (.inl (by omega))],rfl⟩,hS.new0⟩
theorem wytold0 {p:Option Addr} {c:Nat} {w:World} :
  Calls Tryd.prog 41 #[.slice p 0 c] w (Ret (Is (.slice none 0 0)) w):=by
 have hS:=Sep.init w
 refine went Tryd.func41 rfl (n:=12) rfl rfl ?_
 refine wsr (wavc ?_)
 refine wn1 (wSq (wsr (wmv (v:=.slice p 0 c) rfl rfl ?_)))
 refine wl rfl (olen rfl rfl rfl Tryd.runUnderlying29 (p:=p) (k:=0) (m:=c) (ev rfl rfl) ?_)
 refine wbc (u:=.int .i64 ((0:Nat):Int)) (v:=.int .i64 0) (z:=.bool true) rfl rfl (bEq (eqT rfl)) ?_
 refine wn1 ?_
 refine wT (ev rfl rfl) ?_
 refine wsr (wavc ?_)
 refine wn1 ?_
 refine wLv ?_
 refine thenR ?_
 refine wr1 Tryd.results41 (tlT (v:=.slice none 0 0) rfl rfl) ?_
 exact ⟨_,_,rfl,isI,hS.new0⟩
theorem wytold1 {p:Option Addr} {n c:Nat} {xs:List Nat} {w:World} (hx:Sl w p n c xs) (h0:n ≠ 0) :
  Calls Tryd.prog 41 #[.slice p n c] w (Ret (Is (.slice p n n)) w):=by
 have hle:=hx.le
 obtain ⟨b,off,hp,_⟩:=hx.el (show 0 < n by omega)
 have hS:=Sep.init w
 refine went Tryd.func41 rfl (n:=12) rfl rfl ?_
 refine wsr (wavc ?_)
 refine wn1 (wSq (wsr (wmv (v:=.slice p n c) rfl rfl ?_)))
 refine wl rfl (olen rfl rfl rfl Tryd.runUnderlying29 (p:=p) (k:=n) (m:=c) (ev rfl rfl) ?_)
 refine wbc (u:=.int .i64 (n:Int)) (v:=.int .i64 0) (z:=.bool false) rfl rfl (bEq (eqF (by omega))) ?_
 refine wn1 ?_
 refine wF (ev rfl rfl) ?_
 refine wSk (tNo (wsr (wmv (v:=.slice p n c) rfl rfl ?_)))
 refine wmv (v:=.slice p n c) rfl rfl ?_
 refine wl rfl (olen rfl rfl rfl Tryd.runUnderlying29 (p:=p) (k:=n) (m:=c) (ev rfl rfl) ?_)
 refine wmv (v:=.slice p n c) rfl rfl ?_
 refine wl rfl (olen rfl rfl rfl Tryd.runUnderlying29 (p:=p) (k:=n) (m:=c) (ev rfl rfl) ?_)
 refine wl rfl (osliceF (g:=b) (off:=off) (m:=n) (c:=c) (h:=n) rfl rfl Tryd.underlying29 Tryd.sizeOf24 (ev (v:=.slice p n c) rfl rfl) hp (ev (v:=.int .i64 (n:Int)) rfl rfl) (ev (v:=.int .i64 (n:Int)) rfl rfl) (by omega) ?_)
 refine wav (v:=.slice p n n) rfl rfl ?_
 refine wn1 ?_
 refine wLv ?_
 refine wr1 Tryd.results41 (tlT (v:=.slice p n n) rfl rfl) ?_
 exact ⟨_,_,rfl,isI,hS.new0⟩
theorem wytold {p:Option Addr} {n c:Nat} {xs:List Nat} {w:World} (hx:Sl w p n c xs):Calls Tryd.prog 41 #[.slice p n c] w (Ret (Is (.slice (if n = 0 then none else p) n n)) w):=by
  by_cases h:n = 0
  · subst h; exact wytold0
  rw [if_neg h]; exact wytold1 hx h
theorem wynorm {pa:Option Addr} {na ca p:Nat} {a:List Nat} {w:World} (ha:Sl w pa na ca a) (hp0:0 < p) (hp2:p < 4294967296) (hn:na ≤ 1048576) :
  Calls Tryd.prog 71 #[.agg #[.int .u64 ((p:Nat):Int)],.slice pa na ca] w (Ret (Rwt (normP p a)) w):=by
 have hal:=ha.len
 have hS:=Sep.init w
 refine went Tryd.func71 rfl (n:=30) rfl rfl ?_
 refine wsr (wl rfl (obox [.int .u64 (p:Int)] hS rfl rfl (ev (v:=.agg #[.int .u64 (p:Int)]) rfl rfl) rfl ?_))
 clear hS; intro g1 w2 hS
 refine wavc ?_
 refine wn2 (wmv (v:=.slice pa na ca) rfl rfl ?_)
 refine wl rfl (olen rfl rfl rfl Tryd.runUnderlying29 (p:=pa) (k:=na) (m:=ca) (ev rfl rfl) ?_)
 refine wl rfl (omakeL (zs:=[.int .u32 0]) (k:=na) (m:=na) hS rfl rfl Tryd.underlying29 infouint32 rfl rfl (by decide) rfl (ev (v:=.int .i64 (na:Int)) rfl rfl) (ev (v:=.int .i64 (na:Int)) rfl rfl) (by omega) (by omega) (by omega) ?_)
 clear hS; intro g3 w4 hS
 refine wav (v:=.slice (some ⟨g3,0,none⟩) na na) rfl rfl ?_
 refine wn1 (wSq (wsr (wmv (v:=.slice pa na ca) rfl rfl ?_)))
 refine wl rfl (olen rfl rfl rfl Tryd.runUnderlying29 (p:=pa) (k:=na) (m:=ca) (ev rfl rfl) ?_)
 refine wmvc ?_
 refine wn1 (wBk ?_)
 obtain hS:=(show Sep w [.lst 24 1 (some ⟨g3,0,none⟩) na na (u32E (List.replicate na 0)),.blk g1 [.int .u64 (p:Int)] 84] w4 from by rw [u32E_rep]; exact hS).lstRow (lims_zeros _)
 rw [← mixR_zero (a.map (· % p)) (List.replicate na 0)] at hS
 refine wLp (σ := Nat) (fun k a9 w' => ∃ (fb:Nat → Value),a9 = act 30 (sets fb [(2,.pointer (some ⟨g1,0,none⟩)),(4,.slice none 0 0),(5,.slice (some ⟨g3,0,none⟩) na na),(11,.slice pa na ca),(12,.int .i64 (na:Int)),(13,.int .i64 (k:Int))]) ∧ Sep w [.rowm (some ⟨g3,0,none⟩) na na (mixR (a.map (· % p)) (List.replicate na 0) k),.blk g1 [.int .u64 (p:Int)] 84] w' ∧ (k ≤ na)) (fun k => na - k) (0) ⟨_,aSs ⟨rfl,rfl,rfl,rfl,rfl,rfl,trivial⟩,hS,Nat.zero_le _⟩ ?_
 clear hS; rintro k _ w5 ⟨fb,rfl,hS,hk⟩
 refine wsr ?_
 by_cases hlk:k < na
 ·
  obtain ⟨bce,oce,hpce,hcce⟩:=ha.el (show k < na by omega)
  have hl9:=ha.lim1 k
  have hm9:=Nat.mod_lt (nd a k) hp0
  refine wbt (u:=.int .i64 (k:Int)) (v:=.int .i64 (na:Int)) rfl rfl rfl rfl (bLs (decide_eq_true (by omega))) ?_
  refine wn1 (wSq ?_)
  refine wT (ev rfl rfl) ?_
  refine wk2 (wmv (v:=.int .i64 (k:Int)) rfl rfl ?_)
  refine wl rfl (oIx (p:=pa) (g:=bce) (off:=oce) (m:=na) (k:=k) (j:=(oce + k * 1)) rfl rfl Tryd.runUnderlying29 Tryd.sizeOf24 (ev rfl rfl) hpce (ev rfl rfl) (by omega) rfl ?_)
  refine wl rfl (oLc (v:=.int .u32 ((nd a k:Nat):Int)) one32 rfl rfl (ev (v:=.pointer (some ⟨bce,(oce + k * 1),none⟩)) rfl rfl) (hS.cellAt (hcce 0 _ rfl)) ?_)
  refine wav (v:=.int .i64 (k:Int)) rfl rfl ?_
  refine wav (v:=.int .u32 ((nd a k:Nat):Int)) rfl rfl ?_
  refine wn1 (wreg (wmv (v:=.slice (some ⟨g3,0,none⟩) na na) rfl rfl ?_))
  refine wmv (v:=.int .i64 (k:Int)) rfl rfl ?_
  refine wmv (v:=.int .u32 ((nd a k:Nat):Int)) rfl rfl ?_
  refine wl rfl (oCv (u:=.int .u32 ((nd a k:Nat):Int)) (v:=.int .u64 ((nd a k:Nat):Int)) rfl rfl (ev rfl rfl) (cvI Tryd.runUnderlying24 Tryd.runUnderlying44 (wU6 (by omega) (by omega))) ?_)
  refine wl rfl (oFA (g:=g1) (off:=0) 0 rfl rfl (ev rfl rfl) Tryd.runUnderlying84 rfl Tryd.sizeOf44 rfl ?_)
  refine wl rfl (oL1 (v:=.int .u64 (p:Int)) ⟨Tryd.isAgg44,Tryd.sizeOf44⟩ hS 1 rfl rfl (ev rfl rfl) rfl rfl ?_)
  refine wbt (u:=.int .u64 ((nd a k:Nat):Int)) (v:=.int .u64 (p:Int)) (z:=.int .u64 ((nd a k % p:Nat):Int)) rfl rfl rfl rfl (bin_rem (by omega) rfl) ?_
  refine wl rfl (oCv (u:=.int .u64 ((nd a k % p:Nat):Int)) (v:=.int .u32 ((nd a k % p:Nat):Int)) rfl rfl (ev rfl rfl) (cvI Tryd.runUnderlying44 Tryd.runUnderlying24 (wrap_u32 (by omega) (by omega))) ?_)
  refine wl rfl (oIx (p:=(some ⟨g3,0,none⟩)) (g:=g3) (off:=0) (m:=na) (k:=k) (j:=k) rfl rfl Tryd.runUnderlying29 Tryd.sizeOf24 (ev rfl rfl) (rfl) (ev rfl rfl) (by omega) (by simp) ?_)
  refine wl rfl (ostoreRow (i:=k) (u:=(nd a k % p)) Tryd.sizeOf24 hS 0 rfl rfl (ev (v:=.pointer (some ⟨g3,k,none⟩)) rfl rfl) ((ev (v:=.int .u32 ((nd a k % p:Nat):Int)) rfl rfl)) rfl (rfl) ((by omega)) (by omega) ?_)
  clear hS; intro w6 hS
  refine wnil (blkN (tNo (wreg (wbc (u:=.int .i64 (k:Int)) (v:=.int .i64 1) (z:=.int .i64 ((k + 1:Nat):Int)) rfl rfl (bAd (wI6 (by omega) (by omega))) ?_))))
  refine wmv (v:=.int .i64 ((k + 1:Nat):Int)) rfl rfl ?_
  refine wn1 ?_
  rw [mixR_set (new:=a.map (· % p)) (old:=(List.replicate na 0)) (by rw [List.length_map,List.length_replicate]; exact hal) (by rw [List.length_replicate]; omega) (nd_mod k).symm] at hS
  exact ⟨(k + 1),⟨_,aSs ⟨rfl,rfl,rfl,rfl,rfl,rfl,trivial⟩,hS.pick [0,1] (by decide) rfl,by omega⟩,by omega⟩
 refine wbt (u:=.int .i64 (k:Int)) (v:=.int .i64 (na:Int)) rfl rfl rfl rfl (bLs (decide_eq_false (by omega))) ?_
 refine wn1 (wSq ?_)
 refine wF (ev rfl rfl) ?_
 refine wEx ?_
 refine tEx ?_
 refine tEx ?_
 refine blkE ?_
 refine tNo (wsr (wmv (v:=.slice (some ⟨g3,0,none⟩) na na) rfl rfl ?_))
 rw [mixR_full (new:=a.map (· % p)) (old:=(List.replicate na 0)) (by rw [List.length_map,List.length_replicate]; exact hal) (by rw [List.length_replicate]; omega)] at hS
 refine wcl Tryd.call73 (wytrim (hS.slm 0 rfl)) (ar1 (ev rfl rfl)) hS ?_
 clear hS; rintro _ _ w6 ⟨rfl,rfl⟩ hS
 refine wav (v:=.slice (some ⟨g3,0,none⟩) ((topN (a.map (· % p)) na)) na) rfl rfl ?_
 refine wn1 ?_
 refine wLv ?_
 refine wr1 Tryd.results71 (tlT (v:=.slice (some ⟨g3,0,none⟩) ((topN (a.map (· % p)) na)) na) rfl rfl) ?_
 have hlen:topN (a.map (· % p)) na = (normP p a).length:=by unfold normP; rw [trimL_len,List.length_map,hal]
 have htk:(a.map (· % p)).take (topN (a.map (· % p)) na) = normP p a:=trimL_take (by rw [List.length_map]; exact hal)
 obtain hS:=hS.cutRow (k:=topN (a.map (· % p)) na) (topN_le _ _)
 exact ⟨_,_,rfl,⟨_,_,by rw [hlen],by rw [htk,hlen]⟩,hS.newR 0 rfl rfl⟩
theorem wyall {pl:Option Addr} {nl cl p:Nat} {As:List (List Nat)} {w:World} (ht:Tb w) (hL:MS w pl nl As) (hp:MR.Pr p) (hp2:p < 4294967296) (hn:nl ≤ 1000) (hsm:∀ a ∈ As,a.length ≤ 1048576) :
  Calls Tryd.prog 40 #[.int .u32 ((p:Nat):Int),.slice pl nl cl] w (Ret (all1 p nl (As.map (normP p))) w):=by
 have hll:=hL.1
 have hp0:0 < p:=by have:=hp.1; omega
 have hS:=Sep.init w
 refine went Tryd.func40 rfl (n:=37) rfl rfl ?_
 refine wsr (wl rfl (oAl [.int .u64 0] hS rfl rfl Tryd.zeroValue84 rfl ?_))
 clear hS; intro g1 w2 hS
 refine wavc ?_
 refine wavc ?_
 refine wn1 (wSq (wsr (wmv (v:=.int .u32 (p:Int)) rfl rfl ?_)))
 refine wcl Tryd.call31 (wpis (b:=true) hp2 (ht.at hS) ⟨fun _ => hp,fun _ => rfl⟩) (ar1 (ev rfl rfl)) hS ?_
 clear hS; rintro _ _ w3 ⟨rfl,rfl⟩ hS
 refine wl rfl (onot (b:=true) rfl rfl (ev rfl rfl) ?_)
 refine wn1 ?_
 refine wF (ev rfl rfl) ?_
 refine wSk (tNo (wsr (wmv (v:=.int .u32 (p:Int)) rfl rfl ?_)))
 refine wl rfl (oCv (u:=.int .u32 (p:Int)) (v:=.int .u64 (p:Int)) rfl rfl (ev rfl rfl) (cvI Tryd.runUnderlying24 Tryd.runUnderlying44 (wU6 (by omega) (by omega))) ?_)
 refine wl rfl (obuild (ps:=#[(0,.int .u64 (p:Int))]) (v:=.agg #[.int .u64 (p:Int)]) rfl rfl (parts1 (ev (v:=.int .u64 (p:Int)) rfl rfl)) (fun w => by simp [go_sem,Instr.build,Instr.fill]) ?_)
 refine wl rfl (oAl [.int .u64 0] hS rfl rfl Tryd.zeroValue84 rfl ?_)
 clear hS; intro g4 w5 hS
 refine wl rfl (oSt [.int .u64 (p:Int)] [.int .u64 (p:Int)] Tryd.sizeOf84 hS 0 rfl rfl (ev rfl rfl) (ev (v:=.agg #[.int .u64 (p:Int)]) rfl rfl) rfl rfl rfl rfl rfl rfl ?_)
 clear hS; intro w6 hS
 refine wn2 (wmv (v:=.slice pl nl cl) rfl rfl ?_)
 refine wl rfl (olen rfl rfl rfl Tryd.runUnderlying62 (p:=pl) (k:=nl) (m:=cl) (ev rfl rfl) ?_)
 refine wl rfl (omakeL (zs:=[.slice none 0 0]) (k:=nl) (m:=nl) hS rfl rfl Tryd.underlying22 infoRow rfl rfl (by decide) rfl (ev (v:=.int .i64 (nl:Int)) rfl rfl) (ev (v:=.int .i64 (nl:Int)) rfl rfl) (by omega) (by omega) (by omega) ?_)
 clear hS; intro g7 w8 hS
 refine wav (v:=.slice (some ⟨g7,0,none⟩) nl nl) rfl rfl ?_
 refine wn1 (wSq (wsr (wmv (v:=.slice pl nl cl) rfl rfl ?_)))
 refine wl rfl (olen rfl rfl rfl Tryd.runUnderlying62 (p:=pl) (k:=nl) (m:=cl) (ev rfl rfl) ?_)
 refine wmvc ?_
 refine wn1 (wBk ?_)
 replace hS:=hS.nilMM
 refine wLp (σ := Nat) (fun i a9 w' => ∃ (fb:Nat → Value) (Q:List Rw),a9 = act 37 (sets fb [(4,.pointer (some ⟨g1,0,none⟩)),(5,.slice none 0 0),(6,.int .i64 0),(7,.pointer (some ⟨g4,0,none⟩)),(8,.slice (some ⟨g7,0,none⟩) nl nl),(21,.slice pl nl cl),(22,.int .i64 (nl:Int)),(23,.int .i64 (i:Int))]) ∧ Sep w [.lst 29 1 (some ⟨g7,0,none⟩) nl nl (mmE Q),.blk g4 [.int .u64 (p:Int)] 84,.blk g1 [.int .u64 0] 84] w' ∧ (i ≤ nl) ∧ (nums Q = (As.take i).map (normP p) ++ List.replicate (nl - i) [])) (fun i => nl - i) (0) ⟨_,(List.replicate nl ⟨none,0,[]⟩),aSs ⟨rfl,rfl,rfl,rfl,rfl,rfl,rfl,rfl,trivial⟩,hS,Nat.zero_le _,nums_rep _ _⟩ ?_
 clear hS; rintro i _ w9 ⟨fb,Q,rfl,hS,hi,hQ⟩
 refine wsr ?_
 by_cases hli:i < nl
 ·
  have hQl:Q.length = nl:=by have h9:=nums_len Q; rw [hQ,List.length_append,List.length_replicate,List.length_map,List.length_take] at h9; omega
  obtain ⟨xr,hxr⟩:∃ r,(As)[i]? = some r:=⟨_,List.getElem?_eq_getElem (by have:=hL.1; omega)⟩
  obtain ⟨br,ofr,pr,cr,hpr,hcr,hsr⟩:=hL.2.2 i _ hxr
  obtain ⟨q0,hq0⟩:∃ q,Q[i]? = some q:=⟨_,List.getElem?_eq_getElem (by omega)⟩
  have hb9:=hsm xr (List.mem_of_getElem? hxr)
  refine wbt (u:=.int .i64 (i:Int)) (v:=.int .i64 (nl:Int)) rfl rfl rfl rfl (bLs (decide_eq_true (by omega))) ?_
  refine wn1 (wSq ?_)
  refine wT (ev rfl rfl) ?_
  refine wk2 (wmv (v:=.int .i64 (i:Int)) rfl rfl ?_)
  refine wl rfl (oIx (p:=pl) (g:=br) (off:=ofr) (m:=nl) (k:=i) (j:=(ofr + i * 1)) rfl rfl Tryd.runUnderlying62 Tryd.sizeOf30 (ev rfl rfl) hpr (ev rfl rfl) (by omega) rfl ?_)
  refine wl rfl (oLc (v:=.slice pr xr.length cr) ⟨Tryd.isAgg30,Tryd.sizeOf30⟩ rfl rfl (ev (v:=.pointer (some ⟨br,(ofr + i * 1),none⟩)) rfl rfl) (hS.cellAt (hcr 0 _ rfl)) ?_)
  refine wav (v:=.int .i64 (i:Int)) rfl rfl ?_
  refine wav (v:=.slice pr xr.length cr) rfl rfl ?_
  refine wn1 (wreg (wmv (v:=.slice (some ⟨g7,0,none⟩) nl nl) rfl rfl ?_))
  refine wmv (v:=.int .i64 (i:Int)) rfl rfl ?_
  refine wl rfl (oLd (vs:=[.int .u64 (p:Int)]) ⟨Tryd.isAgg84,Tryd.sizeOf84⟩ hS 1 rfl rfl (ev rfl rfl) rfl rfl rfl ?_)
  refine wmv (v:=.slice pr xr.length cr) rfl rfl ?_
  refine wcl Tryd.call71 (wynorm (hsr.below hS.below (Nat.le_refl _)) hp0 hp2 hb9) (ar2 (ev rfl rfl) (ev rfl rfl)) hS ?_
  clear hS; rintro _ _ w10 ⟨pN,cN,rfl,rfl⟩ hS
  refine wl rfl (oIx (p:=(some ⟨g7,0,none⟩)) (g:=g7) (off:=0) (m:=nl) (k:=i) (j:=(0 + i * 1)) rfl rfl Tryd.runUnderlying22 Tryd.sizeOf29 (ev rfl rfl) ((rfl)) (ev rfl rfl) (by omega) rfl ?_)
  refine wl rfl (ostoreL (i:=i) (g:=g7) [.slice pN ((normP p xr).length) cN] [.rowm pN ((normP p xr).length) cN (normP p xr)] Tryd.sizeOf29 hS rfl rfl (ev (v:=.pointer (some ⟨g7,(0 + i * 1),none⟩)) rfl rfl) (ev (v:=.slice pN ((normP p xr).length) cN) rfl rfl) (rfl) rfl rfl rfl (rfl) (by omega) rfl ?_)
  clear hS; intro w11 hS
  refine wnil (blkN (tNo (wreg (wbc (u:=.int .i64 (i:Int)) (v:=.int .i64 1) (z:=.int .i64 ((i + 1:Nat):Int)) rfl rfl (bAd (wI6 (by omega) (by omega))) ?_))))
  refine wmv (v:=.int .i64 ((i + 1:Nat):Int)) rfl rfl ?_
  refine wn1 ?_
  rw [setQ (xi:=normP p xr) rfl] at hS
  exact ⟨(i + 1),⟨_,_,aSs ⟨rfl,rfl,rfl,rfl,rfl,rfl,rfl,rfl,trivial⟩,hS.pick [0,1,2] (by decide) rfl,by omega,all_next (m:=nl - (i + 1)) hxr (by rw [hQ]; congr 2; omega)⟩,by omega⟩
 refine wbt (u:=.int .i64 (i:Int)) (v:=.int .i64 (nl:Int)) rfl rfl rfl rfl (bLs (decide_eq_false (by omega))) ?_
 refine wn1 (wSq ?_)
 refine wF (ev rfl rfl) ?_
 refine wEx ?_
 refine tEx ?_
 refine tEx ?_
 refine blkE ?_
 refine tNo (wsr (wl rfl (oLd (vs:=[.int .u64 (p:Int)]) ⟨Tryd.isAgg84,Tryd.sizeOf84⟩ hS 1 rfl rfl (ev rfl rfl) rfl rfl rfl ?_)))
 refine wmv (v:=.slice (some ⟨g7,0,none⟩) nl nl) rfl rfl ?_
 refine wl rfl (oSt [.int .u64 (p:Int)] [.int .u64 (p:Int)] Tryd.sizeOf84 hS 2 rfl rfl (ev rfl rfl) (ev (v:=.agg #[.int .u64 (p:Int)]) rfl rfl) rfl rfl rfl rfl rfl rfl ?_)
 clear hS; intro w10 hS
 refine wav (v:=.slice (some ⟨g7,0,none⟩) nl nl) rfl rfl ?_
 refine wavc ?_
 refine wn1 ?_
 refine wLv ?_
 have hin:i = nl:=by omega
 refine wret3 Tryd.results40 (tellC (cs:=[.int .u64 (p:Int)]) ⟨Tryd.isAgg84,Tryd.sizeOf84⟩ hS 2 rfl rfl rfl rfl) (tlT (v:=.slice (some ⟨g7,0,none⟩) nl nl) rfl rfl) (tlT (v:=.int .i64 0) rfl rfl) ?_
 exact ⟨_,_,rfl,⟨_,_,Q,by rw [hQ,hin,Nat.sub_self,List.take_of_length_le (by omega)]; exact List.append_nil _,rfl,rfl⟩,hS.newR 0 rfl rfl⟩
theorem nd_mulmod {p c:Nat} {xs:List Nat} (k:Nat):nd (xs.map (· * c % p)) k = nd xs k * c % p:=by
  unfold nd; rw [List.getD,List.getD,List.getElem?_map]; cases xs[k]? <;> simp
theorem wyscale {pa:Option Addr} {na ca p c:Nat} {a:List Nat} {w:World} (ha:Sl w pa na ca a) (hp0:0 < p) (hp2:p < 4294967296) (hn:na ≤ 1048576) (hc:c < 4294967296) :
  Calls Tryd.prog 42 #[.agg #[.int .u64 ((p:Nat):Int)],.slice pa na ca,.int .u32 ((c:Nat):Int)] w (Ret (Rwt (trimL (a.map (· * c % p)))) w):=by
 have hal:=ha.len
 have hS:=Sep.init w
 refine went Tryd.func42 rfl (n:=30) rfl rfl ?_
 refine wsr (wl rfl (obox [.int .u64 (p:Int)] hS rfl rfl (ev (v:=.agg #[.int .u64 (p:Int)]) rfl rfl) rfl ?_))
 clear hS; intro g1 w2 hS
 refine wavc ?_
 refine wn2 (wmv (v:=.slice pa na ca) rfl rfl ?_)
 refine wl rfl (olen rfl rfl rfl Tryd.runUnderlying29 (p:=pa) (k:=na) (m:=ca) (ev rfl rfl) ?_)
 refine wl rfl (omakeL (zs:=[.int .u32 0]) (k:=na) (m:=na) hS rfl rfl Tryd.underlying29 infouint32 rfl rfl (by decide) rfl (ev (v:=.int .i64 (na:Int)) rfl rfl) (ev (v:=.int .i64 (na:Int)) rfl rfl) (by omega) (by omega) (by omega) ?_)
 clear hS; intro g3 w4 hS
 refine wav (v:=.slice (some ⟨g3,0,none⟩) na na) rfl rfl ?_
 refine wn1 (wSq (wsr (wmv (v:=.slice pa na ca) rfl rfl ?_)))
 refine wl rfl (olen rfl rfl rfl Tryd.runUnderlying29 (p:=pa) (k:=na) (m:=ca) (ev rfl rfl) ?_)
 refine wmvc ?_
 refine wn1 (wBk ?_)
 obtain hS:=(show Sep w [.lst 24 1 (some ⟨g3,0,none⟩) na na (u32E (List.replicate na 0)),.blk g1 [.int .u64 (p:Int)] 84] w4 from by rw [u32E_rep]; exact hS).lstRow (lims_zeros _)
 rw [← mixR_zero (a.map (· * c % p)) (List.replicate na 0)] at hS
 refine wLp (σ := Nat) (fun k a9 w' => ∃ (fb:Nat → Value),a9 = act 30 (sets fb [(2,.int .u32 (c:Int)),(3,.pointer (some ⟨g1,0,none⟩)),(6,.slice none 0 0),(7,.slice (some ⟨g3,0,none⟩) na na),(13,.slice pa na ca),(14,.int .i64 (na:Int)),(15,.int .i64 (k:Int))]) ∧ Sep w [.rowm (some ⟨g3,0,none⟩) na na (mixR (a.map (· * c % p)) (List.replicate na 0) k),.blk g1 [.int .u64 (p:Int)] 84] w' ∧ (k ≤ na)) (fun k => na - k) (0) ⟨_,aSs ⟨rfl,rfl,rfl,rfl,rfl,rfl,rfl,trivial⟩,hS,Nat.zero_le _⟩ ?_
 clear hS; rintro k _ w5 ⟨fb,rfl,hS,hk⟩
 refine wsr ?_
 by_cases hlk:k < na
 ·
  obtain ⟨bce,oce,hpce,hcce⟩:=ha.el (show k < na by omega)
  have hl9:=ha.lim1 k
  have hm9:=Nat.mod_lt (nd a k * c) hp0
  refine wbt (u:=.int .i64 (k:Int)) (v:=.int .i64 (na:Int)) rfl rfl rfl rfl (bLs (decide_eq_true (by omega))) ?_
  refine wn1 (wSq ?_)
  refine wT (ev rfl rfl) ?_
  refine wk2 (wmv (v:=.int .i64 (k:Int)) rfl rfl ?_)
  refine wl rfl (oIx (p:=pa) (g:=bce) (off:=oce) (m:=na) (k:=k) (j:=(oce + k * 1)) rfl rfl Tryd.runUnderlying29 Tryd.sizeOf24 (ev rfl rfl) hpce (ev rfl rfl) (by omega) rfl ?_)
  refine wl rfl (oLc (v:=.int .u32 ((nd a k:Nat):Int)) one32 rfl rfl (ev (v:=.pointer (some ⟨bce,(oce + k * 1),none⟩)) rfl rfl) (hS.cellAt (hcce 0 _ rfl)) ?_)
  refine wav (v:=.int .i64 (k:Int)) rfl rfl ?_
  refine wav (v:=.int .u32 ((nd a k:Nat):Int)) rfl rfl ?_
  refine wn1 (wreg (wmv (v:=.slice (some ⟨g3,0,none⟩) na na) rfl rfl ?_))
  refine wmv (v:=.int .i64 (k:Int)) rfl rfl ?_
  refine wl rfl (oLd (vs:=[.int .u64 (p:Int)]) ⟨Tryd.isAgg84,Tryd.sizeOf84⟩ hS 1 rfl rfl (ev rfl rfl) rfl rfl rfl ?_)
  refine wmv (v:=.int .u32 ((nd a k:Nat):Int)) rfl rfl ?_
  refine wmv (v:=.int .u32 (c:Int)) rfl rfl ?_
  refine wcl Tryd.call72 (wymul (a:=(nd a k)) (b:=c) hp0 hp2 (by omega) (by omega)) (args3 (ev rfl rfl) (ev rfl rfl) (ev rfl rfl)) hS ?_
  clear hS; rintro _ _ w6 ⟨rfl,rfl⟩ hS
  refine wl rfl (oIx (p:=(some ⟨g3,0,none⟩)) (g:=g3) (off:=0) (m:=na) (k:=k) (j:=k) rfl rfl Tryd.runUnderlying29 Tryd.sizeOf24 (ev rfl rfl) (rfl) (ev rfl rfl) (by omega) (by simp) ?_)
  refine wl rfl (ostoreRow (i:=k) (u:=(nd a k * c % p)) Tryd.sizeOf24 hS 0 rfl rfl (ev (v:=.pointer (some ⟨g3,k,none⟩)) rfl rfl) ((ev (v:=.int .u32 ((((nd a k) * c % p:Nat):Int))) rfl rfl)) rfl (rfl) ((by omega)) (by omega) ?_)
  clear hS; intro w7 hS
  refine wnil (blkN (tNo (wreg (wbc (u:=.int .i64 (k:Int)) (v:=.int .i64 1) (z:=.int .i64 ((k + 1:Nat):Int)) rfl rfl (bAd (wI6 (by omega) (by omega))) ?_))))
  refine wmv (v:=.int .i64 ((k + 1:Nat):Int)) rfl rfl ?_
  refine wn1 ?_
  rw [mixR_set (new:=a.map (· * c % p)) (old:=(List.replicate na 0)) (by rw [List.length_map,List.length_replicate]; exact hal) (by rw [List.length_replicate]; omega) (nd_mulmod k).symm] at hS
  exact ⟨(k + 1),⟨_,aSs ⟨rfl,rfl,rfl,rfl,rfl,rfl,rfl,trivial⟩,hS.pick [0,1] (by decide) rfl,by omega⟩,by omega⟩
 refine wbt (u:=.int .i64 (k:Int)) (v:=.int .i64 (na:Int)) rfl rfl rfl rfl (bLs (decide_eq_false (by omega))) ?_
 refine wn1 (wSq ?_)
 refine wF (ev rfl rfl) ?_
 refine wEx ?_
 refine tEx ?_
 refine tEx ?_
 refine blkE ?_
 refine tNo (wsr (wmv (v:=.slice (some ⟨g3,0,none⟩) na na) rfl rfl ?_))
 rw [mixR_full (new:=a.map (· * c % p)) (old:=(List.replicate na 0)) (by rw [List.length_map,List.length_replicate]; exact hal) (by rw [List.length_replicate]; omega)] at hS
 refine wcl Tryd.call73 (wytrim (hS.slm 0 rfl)) (ar1 (ev rfl rfl)) hS ?_
 clear hS; rintro _ _ w6 ⟨rfl,rfl⟩ hS
 refine wav (v:=.slice (some ⟨g3,0,none⟩) ((topN (a.map (· * c % p)) na)) na) rfl rfl ?_
 refine wn1 ?_
 refine wLv ?_
 refine wr1 Tryd.results42 (tlT (v:=.slice (some ⟨g3,0,none⟩) ((topN (a.map (· * c % p)) na)) na) rfl rfl) ?_
 have hlen:topN (a.map (· * c % p)) na = (trimL (a.map (· * c % p))).length:=by rw [trimL_len,List.length_map,hal]
 have htk:(a.map (· * c % p)).take (topN (a.map (· * c % p)) na) = trimL (a.map (· * c % p)):=trimL_take (by rw [List.length_map]; exact hal)
 obtain hS:=hS.cutRow (k:=topN (a.map (· * c % p)) na) (topN_le _ _)
 exact ⟨_,_,rfl,⟨_,_,by rw [hlen],by rw [htk,hlen]⟩,hS.newR 0 rfl rfl⟩
theorem wyeach {pa pb:Option Addr} {na ca nb cb p:Nat} {a b:List Nat} {w:World} (ha:Sl w pa na ca a) (hb:Sl w pb nb cb b) (hp0:0 < p) (hp2:p < 4294967296) (hn:na ≤ 1048576) (hn2:nb ≤ 1048576) (hlb:∀ x ∈ b,x < p) :
  Calls Tryd.prog 43 #[.agg #[.int .u64 ((p:Nat):Int)],.slice pa na ca,.slice pb nb cb,.func (.func 44) #[.agg #[.int .u64 ((p:Nat):Int)]] #[]] w (Ret (Rwt (trimL (subL p a b))) w):=by
 have hal:=ha.len
 have hbl:=hb.len
 have hS:=Sep.init w
 refine went Tryd.func43 rfl (n:=50) rfl rfl ?_
 refine wsr (wl rfl (obox [.int .u64 (p:Int)] hS rfl rfl (ev (v:=.agg #[.int .u64 (p:Int)]) rfl rfl) rfl ?_))
 clear hS; intro g1 w2 hS
 refine wavc ?_
 refine wn2 (wmv (v:=.slice pa na ca) rfl rfl ?_)
 refine wl rfl (olen rfl rfl rfl Tryd.runUnderlying29 (p:=pa) (k:=na) (m:=ca) (ev rfl rfl) ?_)
 refine wmv (v:=.slice pb nb cb) rfl rfl ?_
 refine wl rfl (olen rfl rfl rfl Tryd.runUnderlying29 (p:=pb) (k:=nb) (m:=cb) (ev rfl rfl) ?_)
 refine wl rfl (omax2 (a:=(na:Int)) (b:=(nb:Int)) (r:=((max na nb:Nat):Int)) rfl rfl rfl (ev (v:=.int .i64 (na:Int)) rfl rfl) (ev (v:=.int .i64 (nb:Int)) rfl rfl) (by split <;> omega) ?_)
 refine wl rfl (omakeL (zs:=[.int .u32 0]) (k:=max na nb) (m:=max na nb) hS rfl rfl Tryd.underlying29 infouint32 rfl rfl (by decide) rfl (ev (v:=.int .i64 ((max na nb:Nat):Int)) rfl rfl) (ev (v:=.int .i64 ((max na nb:Nat):Int)) rfl rfl) (by omega) (by omega) (by omega) ?_)
 clear hS; intro g3 w4 hS
 refine wav (v:=.slice (some ⟨g3,0,none⟩) (max na nb) (max na nb)) rfl rfl ?_
 refine wn1 (wSq (wsr (wmv (v:=.slice (some ⟨g3,0,none⟩) (max na nb) (max na nb)) rfl rfl ?_)))
 refine wl rfl (olen rfl rfl rfl Tryd.runUnderlying29 (p:=(some ⟨g3,0,none⟩)) (k:=max na nb) (m:=max na nb) (ev rfl rfl) ?_)
 refine wmvc ?_
 refine wn1 (wBk ?_)
 obtain hS:=(show Sep w [.lst 24 1 (some ⟨g3,0,none⟩) (max na nb) (max na nb) (u32E (List.replicate (max na nb) 0)),.blk g1 [.int .u64 (p:Int)] 84] w4 from by rw [u32E_rep]; exact hS).lstRow (lims_zeros _)
 rw [← mixR_zero (subL p a b) (List.replicate (max na nb) 0)] at hS
 refine wLp (σ := Nat) (fun k a9 w' => ∃ (fb:Nat → Value),a9 = act 50 (sets fb [(1,.slice pa na ca),(2,.slice pb nb cb),(3,.func (.func 44) #[.agg #[.int .u64 (p:Int)]] #[]),(8,.slice none 0 0),(9,.slice (some ⟨g3,0,none⟩) (max na nb) (max na nb)),(20,.int .i64 ((max na nb:Nat):Int)),(21,.int .i64 (k:Int))]) ∧ Sep w [.rowm (some ⟨g3,0,none⟩) (max na nb) (max na nb) (mixR (subL p a b) (List.replicate (max na nb) 0) k),.blk g1 [.int .u64 (p:Int)] 84] w' ∧ (k ≤ max na nb)) (fun k => max na nb - k) (0) ⟨_,aSs ⟨rfl,rfl,rfl,rfl,rfl,rfl,rfl,trivial⟩,hS,Nat.zero_le _⟩ ?_
 clear hS; rintro k _ w5 ⟨fb,rfl,hS,hk⟩
 refine wsr ?_
 by_cases hlk:k < max na nb
 ·
  refine wbt (u:=.int .i64 (k:Int)) (v:=.int .i64 ((max na nb:Nat):Int)) rfl rfl rfl rfl (bLs (decide_eq_true (by omega))) ?_
  refine wn1 (wSq ?_)
  refine wT (ev rfl rfl) ?_
  refine wk2 (wmv (v:=.int .i64 (k:Int)) rfl rfl ?_)
  refine wav (v:=.int .i64 (k:Int)) rfl rfl ?_
  refine wn2 (wavc ?_)
  refine wavc ?_
  refine wn1 ?_
  refine wjoin (I:=fun a9 w' => ∃ (fb:Nat → Value) (u:Nat),a9 = act 50 (sets fb [(1,.slice pa na ca),(2,.slice pb nb cb),(3,.func (.func 44) #[.agg #[.int .u64 (p:Int)]] #[]),(8,.slice none 0 0),(9,.slice (some ⟨g3,0,none⟩) (max na nb) (max na nb)),(10,.int .i64 (k:Int)),(11,.int .u32 (u:Int)),(12,.int .u32 0),(20,.int .i64 ((max na nb:Nat):Int)),(21,.int .i64 (k:Int))]) ∧ Sep w [.rowm (some ⟨g3,0,none⟩) (max na nb) (max na nb) (mixR (subL p a b) (List.replicate (max na nb) 0) k),.blk g1 [.int .u64 (p:Int)] 84] w' ∧ (u = nd a k)) ?_ ?_
  ·
   refine wsr (wmv (v:=.int .i64 (k:Int)) rfl rfl ?_)
   refine wmv (v:=.slice pa na ca) rfl rfl ?_
   refine wl rfl (olen rfl rfl rfl Tryd.runUnderlying29 (p:=pa) (k:=na) (m:=ca) (ev rfl rfl) ?_)
   by_cases hka:k < na
   ·
    refine wbt (u:=.int .i64 (k:Int)) (v:=.int .i64 (na:Int)) rfl rfl rfl rfl (bLs (decide_eq_true (by omega))) ?_
    refine wn1 ?_
    refine wT (ev rfl rfl) ?_
    refine wreg (wmv (v:=.slice pa na ca) rfl rfl ?_)
    refine wmv (v:=.int .i64 (k:Int)) rfl rfl ?_
    obtain ⟨bce,oce,hpce,hcce⟩:=ha.el (show k < na by omega)
    refine wl rfl (oIx (p:=pa) (g:=bce) (off:=oce) (m:=na) (k:=k) (j:=(oce + k * 1)) rfl rfl Tryd.runUnderlying29 Tryd.sizeOf24 (ev rfl rfl) hpce (ev rfl rfl) (by omega) rfl ?_)
    refine wl rfl (oLc (v:=.int .u32 ((nd a k:Nat):Int)) one32 rfl rfl (ev (v:=.pointer (some ⟨bce,(oce + k * 1),none⟩)) rfl rfl) (hS.cellAt (hcce 0 _ rfl)) ?_)
    refine wav (v:=.int .u32 ((nd a k:Nat):Int)) rfl rfl ?_
    refine wn1 ?_
    exact ⟨_,_,aSs ⟨rfl,rfl,rfl,rfl,rfl,rfl,rfl,rfl,rfl,rfl,trivial⟩,hS.pick [0,1] (by decide) rfl,rfl⟩
   refine wbt (u:=.int .i64 (k:Int)) (v:=.int .i64 (na:Int)) rfl rfl rfl rfl (bLs (decide_eq_false (by omega))) ?_
   refine wn1 ?_
   refine wF (ev rfl rfl) ?_
   refine wSk (tNo ?_)
   exact ⟨_,_,aSs ⟨rfl,rfl,rfl,rfl,rfl,rfl,rfl,rfl,rfl,rfl,trivial⟩,hS.pick [0,1] (by decide) rfl,(nd_lt_len (by omega)).symm⟩
  clear hS; rintro _ w6 ⟨fb,u,rfl,hS,hu9⟩
  have hu8:u < 4294967296:=by rw [hu9]; exact ha.lim1 k
  refine wjoin (I:=fun a9 w' => ∃ (fb:Nat → Value) (v:Nat),a9 = act 50 (sets fb [(1,.slice pa na ca),(2,.slice pb nb cb),(3,.func (.func 44) #[.agg #[.int .u64 (p:Int)]] #[]),(8,.slice none 0 0),(9,.slice (some ⟨g3,0,none⟩) (max na nb) (max na nb)),(10,.int .i64 (k:Int)),(11,.int .u32 (u:Int)),(12,.int .u32 (v:Int)),(20,.int .i64 ((max na nb:Nat):Int)),(21,.int .i64 (k:Int))]) ∧ Sep w [.rowm (some ⟨g3,0,none⟩) (max na nb) (max na nb) (mixR (subL p a b) (List.replicate (max na nb) 0) k),.blk g1 [.int .u64 (p:Int)] 84] w' ∧ (v = nd b k)) ?_ ?_
  ·
   refine wsr (wmv (v:=.int .i64 (k:Int)) rfl rfl ?_)
   refine wmv (v:=.slice pb nb cb) rfl rfl ?_
   refine wl rfl (olen rfl rfl rfl Tryd.runUnderlying29 (p:=pb) (k:=nb) (m:=cb) (ev rfl rfl) ?_)
   by_cases hkb:k < nb
   ·
    refine wbt (u:=.int .i64 (k:Int)) (v:=.int .i64 (nb:Int)) rfl rfl rfl rfl (bLs (decide_eq_true (by omega))) ?_
    refine wn1 ?_
    refine wT (ev rfl rfl) ?_
    refine wreg (wmv (v:=.slice pb nb cb) rfl rfl ?_)
    refine wmv (v:=.int .i64 (k:Int)) rfl rfl ?_
    obtain ⟨bce,oce,hpce,hcce⟩:=hb.el (show k < nb by omega)
    refine wl rfl (oIx (p:=pb) (g:=bce) (off:=oce) (m:=nb) (k:=k) (j:=(oce + k * 1)) rfl rfl Tryd.runUnderlying29 Tryd.sizeOf24 (ev rfl rfl) hpce (ev rfl rfl) (by omega) rfl ?_)
    refine wl rfl (oLc (v:=.int .u32 ((nd b k:Nat):Int)) one32 rfl rfl (ev (v:=.pointer (some ⟨bce,(oce + k * 1),none⟩)) rfl rfl) (hS.cellAt (hcce 0 _ rfl)) ?_)
    refine wav (v:=.int .u32 ((nd b k:Nat):Int)) rfl rfl ?_
    refine wn1 ?_
    exact ⟨_,_,aSs ⟨rfl,rfl,rfl,rfl,rfl,rfl,rfl,rfl,rfl,rfl,trivial⟩,hS.pick [0,1] (by decide) rfl,rfl⟩
   refine wbt (u:=.int .i64 (k:Int)) (v:=.int .i64 (nb:Int)) rfl rfl rfl rfl (bLs (decide_eq_false (by omega))) ?_
   refine wn1 ?_
   refine wF (ev rfl rfl) ?_
   refine wSk (tNo ?_)
   exact ⟨_,_,aSs ⟨rfl,rfl,rfl,rfl,rfl,rfl,rfl,rfl,rfl,rfl,trivial⟩,hS.pick [0,1] (by decide) rfl,(nd_lt_len (by omega)).symm⟩
  clear hS; rintro _ w7 ⟨fb,v,rfl,hS,hv9⟩
  refine wreg (wmv (v:=.slice (some ⟨g3,0,none⟩) (max na nb) (max na nb)) rfl rfl ?_)
  refine wmv (v:=.int .i64 (k:Int)) rfl rfl ?_
  refine wmv (v:=.func (.func 44) #[.agg #[.int .u64 (p:Int)]] #[]) rfl rfl ?_
  refine wmv (v:=.int .u32 (u:Int)) rfl rfl ?_
  refine wmv (v:=.int .u32 (v:Int)) rfl rfl ?_
  have hv8:v < p:=by rw [hv9]; exact lt_nd hlb hp0 k
  have hm9:=Nat.mod_lt (u + p - v) hp0
  refine wl rfl (ocallB (av:=#[.agg #[.int .u64 (p:Int)]]) (vs:=#[.int .u32 (u:Int),.int .u32 (v:Int)]) rfl rfl (ev (v:=.func (.func 44) #[.agg #[.int .u64 (p:Int)]] #[]) rfl rfl) Tryd.call44 rfl (wysub (a:=u) (b:=v) hp0 hp2 (by omega) (by omega) (by omega)) (ar2 (ev rfl rfl) (ev rfl rfl)) ?_)
  rintro _ w8 ⟨_,_,rfl,⟨rfl,rfl⟩,hN⟩
  refine ⟨_,rfl,?_⟩
  replace hS:=hS.news hN; clear hN
  refine wl rfl (oIx (p:=(some ⟨g3,0,none⟩)) (g:=g3) (off:=0) (m:=max na nb) (k:=k) (j:=k) rfl rfl Tryd.runUnderlying29 Tryd.sizeOf24 (ev rfl rfl) (rfl) (ev rfl rfl) (by omega) (by simp) ?_)
  refine wl rfl (ostoreRow (i:=k) (u:=((u + p - v) % p)) Tryd.sizeOf24 hS 0 rfl rfl (ev (v:=.pointer (some ⟨g3,k,none⟩)) rfl rfl) ((ev (v:=.int .u32 ((((u + p - v) % p:Nat):Int))) rfl rfl)) rfl (rfl) ((by omega)) (by omega) ?_)
  clear hS; intro w9 hS
  refine wnil (blkN (tNo (wreg (wbc (u:=.int .i64 (k:Int)) (v:=.int .i64 1) (z:=.int .i64 ((k + 1:Nat):Int)) rfl rfl (bAd (wI6 (by omega) (by omega))) ?_))))
  refine wmv (v:=.int .i64 ((k + 1:Nat):Int)) rfl rfl ?_
  refine wn1 ?_
  rw [mixR_set (new:=subL p a b) (old:=(List.replicate (max na nb) 0)) (by rw [subL,rowF_len,List.length_replicate,hal,hbl]) (by rw [List.length_replicate]; omega) (by rw [subL,rowF_nd (by omega), ← hu9, ← hv9])] at hS
  exact ⟨(k + 1),⟨_,aSs ⟨rfl,rfl,rfl,rfl,rfl,rfl,rfl,trivial⟩,hS.pick [0,1] (by decide) rfl,by omega⟩,by omega⟩
 refine wbt (u:=.int .i64 (k:Int)) (v:=.int .i64 ((max na nb:Nat):Int)) rfl rfl rfl rfl (bLs (decide_eq_false (by omega))) ?_
 refine wn1 (wSq ?_)
 refine wF (ev rfl rfl) ?_
 refine wEx ?_
 refine tEx ?_
 refine tEx ?_
 refine blkE ?_
 refine tNo (wsr (wmv (v:=.slice (some ⟨g3,0,none⟩) (max na nb) (max na nb)) rfl rfl ?_))
 rw [mixR_full (new:=subL p a b) (old:=(List.replicate (max na nb) 0)) (by rw [subL,rowF_len,List.length_replicate,hal,hbl]) (by rw [List.length_replicate]; omega)] at hS
 refine wcl Tryd.call73 (wytrim (hS.slm 0 rfl)) (ar1 (ev rfl rfl)) hS ?_
 clear hS; rintro _ _ w6 ⟨rfl,rfl⟩ hS
 refine wav (v:=.slice (some ⟨g3,0,none⟩) ((topN (subL p a b) (max na nb))) (max na nb)) rfl rfl ?_
 refine wn1 ?_
 refine wLv ?_
 refine wr1 Tryd.results43 (tlT (v:=.slice (some ⟨g3,0,none⟩) ((topN (subL p a b) (max na nb))) (max na nb)) rfl rfl) ?_
 have hlen:topN (subL p a b) (max na nb) = (trimL (subL p a b)).length:=by rw [trimL_len,subL,rowF_len,hal,hbl]
 have htk:(subL p a b).take (topN (subL p a b) (max na nb)) = trimL (subL p a b):=trimL_take (by rw [subL,rowF_len,hal,hbl])
 obtain hS:=hS.cutRow (k:=topN (subL p a b) (max na nb)) (topN_le _ _)
 exact ⟨_,_,rfl,⟨_,_,by rw [hlen],by rw [htk,hlen]⟩,hS.newR 0 rfl rfl⟩
end Go.Proofs.YtcfcdbeemhjhgaaDoor
