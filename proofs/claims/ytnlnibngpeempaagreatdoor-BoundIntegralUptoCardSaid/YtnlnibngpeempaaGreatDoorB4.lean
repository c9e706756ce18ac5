/-
  Contracts and lemmas, joined in one text.
-/
import Derived.Test.YtnlnibngpeempaaGreatDoorB3
set_option linter.unusedVariables false
set_option linter.unusedSimpArgs false
/-
  Both fits in full; the errors of bound's functions; bound.Bound.
-/
set_option maxRecDepth 100000
set_option maxHeartbeats 16000000
namespace Go.Proofs.YtnlnibngpeempaaGreatDoor
open Go.RowKit
def fitc (T:List (List Int)):Int :=
  if ∀ L ∈ T,L.length = (T.getD 0 []).length then (if T.length = 0 ∨ T.length ≠ (T.getD 0 []).length then 3 else if 24 < T.length then 4 else 0) else 2
theorem getD_some {T:List (List Int)} {i:Nat} {L:List Int} (h:T[i]? = some L):T.getD i [] = L:=by rw [List.getD,h]; rfl
def SeT (g:Nat) (m:Int):Tell:=fun v r => ∃ (p:Option Addr) (n c:Nat),v = .tuple #[] ∧ r = [.blk g [.bool (ng m),.slice p n c] 78,.row p n c (lim m.natAbs)]
open Go.RowKit
def mxA (l:List Int):Nat → Int
  | 0 => 0
  | i + 1 => if ((l.getD i 0).natAbs:Int) < mxA l i then mxA l i else ((l.getD i 0).natAbs:Int)
theorem mxA_wd {l:List Int} {K:Nat} (h:∀ i,Wd (l.getD i 0) K):∀ i,Wd (mxA l i) K
 | 0 => Wd.zero _
 | i + 1 => by
  rw [mxA]; split
  ·exact mxA_wd h i
  exact Wd.nabs (h i) rfl
theorem rsums_len (T:List (List Int)):(rsums T).length = T.length:=List.length_map _
theorem facc_abs_nn (L:List Int):∀ i,0 ≤ facc absA 0 L i
 | 0 => Int.le_refl _
 | i + 1 => by
  have h1:=facc_abs_nn L i
  cases hx:L[i]? with
  | none => unfold facc at h1 ⊢; rw [List.take_add_one,hx]; simpa using h1
  | some x => rw [facc_succ hx]; show 0 ≤ _ + _; omega
theorem wbabove {bx by9 x:Bool} {px py:Option Addr} {nx cx ny cy:Nat} {a b:Int} {w:World} (hx:Zr w bx px nx cx a 4000000000) (hy:Zr w by9 py ny cy b 4000000000) (hb:decide (b < a) = x) :
  Calls Tryz.prog 77 #[.agg #[.bool bx,.slice px nx cx],.agg #[.bool by9,.slice py ny cy]] w (Ret (Is (.bool x)) w):=by
 have hS:=Sep.init w
 refine went Tryz.func77 rfl (n:=11) rfl rfl ?_
 refine wsr (wl rfl (obox [.bool bx,.slice px nx cx] hS rfl rfl (ev rfl rfl) rfl ?_))
 clear hS; intro g1 w2 hS
 refine wl rfl (obox [.bool by9,.slice py ny cy] hS rfl rfl (ev rfl rfl) rfl ?_)
 clear hS; intro g3 w4 hS
 refine wavc ?_
 refine wn2 (wl rfl (oFA (g:=g1) (off:=0) 0 rfl rfl (ev rfl rfl) Tryz.runUnderlying75 rfl Tryz.sizeOf28 rfl ?_))
 refine wl rfl (oLd aggZ hS 1 rfl rfl (ev rfl rfl) rfl rfl rfl ?_)
 refine wl rfl (oFA (g:=g3) (off:=0) 0 rfl rfl (ev rfl rfl) Tryz.runUnderlying75 rfl Tryz.sizeOf28 rfl ?_)
 refine wl rfl (oLd aggZ hS 0 rfl rfl (ev rfl rfl) rfl rfl rfl ?_)
 obtain ⟨s1,hs1⟩:∃ z:Int,Hid (cmpZ a b = z):=⟨_,rfl⟩
 refine wcl Tryz.call70 (wzcmp ((hx.at hS).mono (by omega)) ((hy.at hS).mono (by omega)) hs1) (ar2 (ev rfl rfl) (ev rfl rfl)) hS ?_
 clear hS; rintro _ _ w5 ⟨rfl,rfl⟩ hS
 refine wbc (z:=.bool x) rfl rfl (bin_gtr ((cmpZ_gtD hs1).trans hb)) ?_
 refine wav rfl rfl ?_
 refine wn1 ?_
 refine wLv ?_
 refine wr1 Tryz.results77 (tlT (v:=.bool x) rfl rfl) ?_
 exact ⟨_,_,rfl,isI,hS.new0⟩
theorem wbseeG {w0 w:World} {R:List Res} {g na ca nb cb:Nat} {pa pb:Option Addr} {a b:Int} (hka:Wd a 4000000000) (hkb:Wd b 4000000000) (hab:decide (b < a) = true) (hS:Sep w0 (.blk g [.bool (ng a),.slice pa na ca] 78 :: .row pa na ca (lim a.natAbs) :: .row pb nb cb (lim b.natAbs) :: R) w) :
  Calls Tryz.prog 37 #[.pointer (some ⟨g,0,none⟩),.agg #[.bool (ng b),.slice pb nb cb]] w (RetS (SeT g a) w0 R):=by
 refine went Tryz.func37 rfl (n:=15) rfl rfl ?_
 refine wsr (wl rfl (obox [.bool (ng b),.slice pb nb cb] hS rfl rfl (ev rfl rfl) rfl ?_))
 clear hS; intro g1 w2 hS
 refine wn1 (wSq ?_)
 refine wSg 7 [4,5,6,7,8,9,10] [[],[0],[1,0],[2,0,1],[],[3,4,0,1,2],[5,0,1,2,3,4]] [] [] [] (fun i9 => ([iSv (.pointer (some ⟨g,0,none⟩)),iSv (.pointer (some ⟨g,0,none⟩)),iSv (.pointer (some ⟨g,0,none⟩)),iSv (.agg #[.bool (ng a),.slice pa na ca]),iSv (.agg #[.bool (ng b),.slice pb nb cb]),iSv (.bool true),iSv (.bool false)]:List (List Value → Tell)).getD i9 (fun _ _ _ => False)) hNi (fun d _ _ _ _ h => (by cases d <;> exact h)) (by kernel_rfl) (by kernel_rfl) (by kernel_rfl) hS ?_ ?_
 ·
  refine stM rfl rfl rfl rfl rfl (fun _=>isI) ?_
  refine stT rfl (fun hT hS=>?_) ?_
  ·obtain ⟨hv0,hr0⟩:=hT 0 4 rfl rfl
   obtain hS:=(hS.flat1 hr0).front1
   exact inNo rfl (oNC (a:=⟨g,0,none⟩) rfl rfl (ev rfl hv0) (nSm rfl isI))
  refine stT rfl (fun hT hS=>?_) ?_
  ·obtain ⟨hv1,hr1⟩:=hT 1 5 rfl rfl
   obtain hS:=(hS.flat1 hr1).front1
   exact inNo rfl (oFA (g:=g) (off:=0) 0 rfl rfl (ev rfl hv1) Tryz.runUnderlying78 rfl Tryz.sizeOf75 rfl (nSm rfl isI))
  refine stT rfl (fun hT hS=>?_) ?_
  ·obtain ⟨hv2,hr2⟩:=hT 2 6 rfl rfl
   obtain hS:=(hS.flat1 hr2).front1
   exact inNo rfl (oLd ⟨Tryz.isAgg75,Tryz.sizeOf75⟩ hS 1 rfl rfl (ev rfl hv2) rfl rfl rfl (nSm rfl isI))
  refine stH rfl (fun ho hS=>?_) ?_
  ·exact inNo rfl (oLd ⟨Tryz.isAgg75,Tryz.sizeOf75⟩ hS 0 rfl rfl (ev rfl (ho 3 rfl)) rfl rfl rfl (nSm rfl isI))
  refine stT rfl (fun hT hS=>?_) ?_
  ·obtain ⟨hv3,hr3⟩:=hT 3 7 rfl rfl
   obtain ⟨hv4,hr4⟩:=hT 4 8 rfl rfl
   obtain hS:=(hS.flat2 hr3 hr4).front2
   exact .inl ⟨wNo rfl,oCl rfl rfl Tryz.call77 rfl (wbabove ((hS.sl 2 rfl).zr hka) ((hS.sl 3 rfl).zr hkb) hab) (ar2 (ev rfl hv3) (ev rfl hv4)) cNw⟩
  refine stT rfl (fun hT hS=>?_) ?_
  ·obtain ⟨hv5,hr5⟩:=hT 5 9 rfl rfl
   obtain hS:=(hS.flat1 hr5).front1
   exact inNo rfl (onot rfl rfl (ev rfl hv5) (nSm rfl isI))
  exact sNi
 intro vs ρ w3 f' hf hT hS
 obtain ⟨hv0,hr0⟩:=hT 0 (by decide)
 obtain ⟨hv1,hr1⟩:=hT 1 (by decide)
 obtain ⟨hv2,hr2⟩:=hT 2 (by decide)
 obtain ⟨hv3,hr3⟩:=hT 3 (by decide)
 obtain ⟨hv4,hr4⟩:=hT 4 (by decide)
 obtain ⟨hv5,hr5⟩:=hT 5 (by decide)
 obtain ⟨hv6,hr6⟩:=hT 6 (by decide)
 simp only [pool,if_true,hr0,hr1,hr2,hr3,hr4,hr5,hr6,List.nil_append,List.cons_append,List.append_nil] at hS
 simp only [layf,hv0,hv1,hv2,hv3,hv4,hv5,hv6] at hf
 subst hf; clear hT hv0 hv1 hv2 hv3 hv4 hv5 hv6 hr0 hr1 hr2 hr3 hr4 hr5 hr6
 refine wdone rfl ?_
 refine tNo ?_
 refine wF (ev rfl rfl) ?_
 refine wSk ?_
 refine wret0n Tryz.results37 ?_
 obtain hS:=(show Sep w0 (.blk g [.bool (ng a),.slice pa na ca] 78 :: .row pa na ca (lim a.natAbs) :: .blk g1 [.bool (ng b),.slice pb nb cb] 75 :: .row pb nb cb (lim b.natAbs) :: R) w3 from Sep.pickT [.blk g1 [.bool (ng b),.slice pb nb cb] 75,.blk g [.bool (ng a),.slice pa na ca] 78,.row pa na ca (lim a.natAbs),.row pb nb cb (lim b.natAbs)] [.blk g [.bool (ng a),.slice pa na ca] 78,.row pa na ca (lim a.natAbs),.blk g1 [.bool (ng b),.slice pb nb cb] 75,.row pb nb cb (lim b.natAbs)] hS [1,2,0,3] (by decide) rfl)
 exact ⟨_,_,rfl,⟨_,_,_,rfl,rfl⟩,Sep.pickT [.blk g [.bool (ng a),.slice pa na ca] 78,.row pa na ca (lim a.natAbs),.blk g1 [.bool (ng b),.slice pb nb cb] 75,.row pb nb cb (lim b.natAbs)] [.blk g [.bool (ng a),.slice pa na ca] 78,.row pa na ca (lim a.natAbs)] hS [0,1] (by decide) rfl⟩
theorem wbseeL {w0 w:World} {R:List Res} {g na ca nb cb:Nat} {pa pb:Option Addr} {a b:Int} (hka:Wd a 4000000000) (hkb:Wd b 4000000000) (hab:decide (b < a) = false) (hS:Sep w0 (.blk g [.bool (ng a),.slice pa na ca] 78 :: .row pa na ca (lim a.natAbs) :: .row pb nb cb (lim b.natAbs) :: R) w) :
  Calls Tryz.prog 37 #[.pointer (some ⟨g,0,none⟩),.agg #[.bool (ng b),.slice pb nb cb]] w (RetS (SeT g b) w0 R):=by
 refine went Tryz.func37 rfl (n:=15) rfl rfl ?_
 refine wsr (wl rfl (obox [.bool (ng b),.slice pb nb cb] hS rfl rfl (ev rfl rfl) rfl ?_))
 clear hS; intro g1 w2 hS
 refine wn1 (wSq ?_)
 refine wSg 7 [4,5,6,7,8,9,10] [[],[0],[1,0],[2,0,1],[],[3,4,0,1,2],[5,0,1,2,3,4]] [] [] [] (fun i9 => ([iSv (.pointer (some ⟨g,0,none⟩)),iSv (.pointer (some ⟨g,0,none⟩)),iSv (.pointer (some ⟨g,0,none⟩)),iSv (.agg #[.bool (ng a),.slice pa na ca]),iSv (.agg #[.bool (ng b),.slice pb nb cb]),iSv (.bool false),iSv (.bool true)]:List (List Value → Tell)).getD i9 (fun _ _ _ => False)) hNi (fun d _ _ _ _ h => (by cases d <;> exact h)) (by kernel_rfl) (by kernel_rfl) (by kernel_rfl) hS ?_ ?_
 ·
  refine stM rfl rfl rfl rfl rfl (fun _=>isI) ?_
  refine stT rfl (fun hT hS=>?_) ?_
  ·obtain ⟨hv0,hr0⟩:=hT 0 4 rfl rfl
   obtain hS:=(hS.flat1 hr0).front1
   exact inNo rfl (oNC (a:=⟨g,0,none⟩) rfl rfl (ev rfl hv0) (nSm rfl isI))
  refine stT rfl (fun hT hS=>?_) ?_
  ·obtain ⟨hv1,hr1⟩:=hT 1 5 rfl rfl
   obtain hS:=(hS.flat1 hr1).front1
   exact inNo rfl (oFA (g:=g) (off:=0) 0 rfl rfl (ev rfl hv1) Tryz.runUnderlying78 rfl Tryz.sizeOf75 rfl (nSm rfl isI))
  refine stT rfl (fun hT hS=>?_) ?_
  ·obtain ⟨hv2,hr2⟩:=hT 2 6 rfl rfl
   obtain hS:=(hS.flat1 hr2).front1
   exact inNo rfl (oLd ⟨Tryz.isAgg75,Tryz.sizeOf75⟩ hS 1 rfl rfl (ev rfl hv2) rfl rfl rfl (nSm rfl isI))
  refine stH rfl (fun ho hS=>?_) ?_
  ·exact inNo rfl (oLd ⟨Tryz.isAgg75,Tryz.sizeOf75⟩ hS 0 rfl rfl (ev rfl (ho 3 rfl)) rfl rfl rfl (nSm rfl isI))
  refine stT rfl (fun hT hS=>?_) ?_
  ·obtain ⟨hv3,hr3⟩:=hT 3 7 rfl rfl
   obtain ⟨hv4,hr4⟩:=hT 4 8 rfl rfl
   obtain hS:=(hS.flat2 hr3 hr4).front2
   exact .inl ⟨wNo rfl,oCl rfl rfl Tryz.call77 rfl (wbabove ((hS.sl 2 rfl).zr hka) ((hS.sl 3 rfl).zr hkb) hab) (ar2 (ev rfl hv3) (ev rfl hv4)) cNw⟩
  refine stT rfl (fun hT hS=>?_) ?_
  ·obtain ⟨hv5,hr5⟩:=hT 5 9 rfl rfl
   obtain hS:=(hS.flat1 hr5).front1
   exact inNo rfl (onot rfl rfl (ev rfl hv5) (nSm rfl isI))
  exact sNi
 intro vs ρ w3 f' hf hT hS
 obtain ⟨hv0,hr0⟩:=hT 0 (by decide)
 obtain ⟨hv1,hr1⟩:=hT 1 (by decide)
 obtain ⟨hv2,hr2⟩:=hT 2 (by decide)
 obtain ⟨hv3,hr3⟩:=hT 3 (by decide)
 obtain ⟨hv4,hr4⟩:=hT 4 (by decide)
 obtain ⟨hv5,hr5⟩:=hT 5 (by decide)
 obtain ⟨hv6,hr6⟩:=hT 6 (by decide)
 simp only [pool,if_true,hr0,hr1,hr2,hr3,hr4,hr5,hr6,List.nil_append,List.cons_append,List.append_nil] at hS
 simp only [layf,hv0,hv1,hv2,hv3,hv4,hv5,hv6] at hf
 subst hf; clear hT hv0 hv1 hv2 hv3 hv4 hv5 hv6 hr0 hr1 hr2 hr3 hr4 hr5 hr6
 refine wdone rfl ?_
 refine tNo ?_
 refine wT (ev rfl rfl) ?_
 refine wreg (wmv rfl rfl ?_)
 refine wl rfl (oLd ⟨Tryz.isAgg75,Tryz.sizeOf75⟩ hS 0 rfl rfl (ev rfl rfl) rfl rfl rfl ?_)
 refine wl rfl (oNC (a:=⟨g,0,none⟩) rfl rfl (ev rfl rfl) ?_)
 refine wl rfl (oFA (g:=g) (off:=0) 0 rfl rfl (ev rfl rfl) Tryz.runUnderlying78 rfl Tryz.sizeOf75 rfl ?_)
 refine wl rfl (oSt _ _ Tryz.sizeOf75 hS 1 rfl rfl (ev rfl rfl) (ev rfl rfl) rfl rfl rfl rfl rfl rfl ?_)
 clear hS; intro w4 hS
 refine wnil ?_
 refine wret0n Tryz.results37 ?_
 obtain hS:=(show Sep w0 (.blk g [.bool (ng b),.slice pb nb cb] 78 :: .row pb nb cb (lim b.natAbs) :: .blk g1 [.bool (ng b),.slice pb nb cb] 75 :: .row pa na ca (lim a.natAbs) :: R) w4 from Sep.pickT [.blk g1 [.bool (ng b),.slice pb nb cb] 75,.blk g [.bool (ng b),.slice pb nb cb] 78,.row pa na ca (lim a.natAbs),.row pb nb cb (lim b.natAbs)] [.blk g [.bool (ng b),.slice pb nb cb] 78,.row pb nb cb (lim b.natAbs),.blk g1 [.bool (ng b),.slice pb nb cb] 75,.row pa na ca (lim a.natAbs)] hS [1,3,0,2] (by decide) rfl)
 exact ⟨_,_,rfl,⟨_,_,_,rfl,rfl⟩,Sep.pickT [.blk g [.bool (ng b),.slice pb nb cb] 78,.row pb nb cb (lim b.natAbs),.blk g1 [.bool (ng b),.slice pb nb cb] 75,.row pa na ca (lim a.natAbs)] [.blk g [.bool (ng b),.slice pb nb cb] 78,.row pb nb cb (lim b.natAbs)] hS [0,1] (by decide) rfl⟩
theorem wbsee {w0 w:World} {R:List Res} {g na ca nb cb:Nat} {pa pb:Option Addr} {a b m:Int} (hka:Wd a 4000000000) (hkb:Wd b 4000000000) (hm:(if b < a then a else b) = m) (hS:Sep w0 (.blk g [.bool (ng a),.slice pa na ca] 78 :: .row pa na ca (lim a.natAbs) :: .row pb nb cb (lim b.natAbs) :: R) w) :
  Calls Tryz.prog 37 #[.pointer (some ⟨g,0,none⟩),.agg #[.bool (ng b),.slice pb nb cb]] w (RetS (SeT g m) w0 R):=by
 subst hm
 split
 ·exact wbseeG hka hkb (decide_eq_true ‹_›) hS
 exact wbseeL hka hkb (decide_eq_false ‹_›) hS
end Go.Proofs.YtnlnibngpeempaaGreatDoor
