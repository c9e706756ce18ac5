/-
  Contracts and lemmas, joined in one text.
-/
import Derived.Test.YtcfcdbeemhjhgaaDoorHA
set_option linter.unusedVariables false
set_option linter.unusedSimpArgs false
/-
  hess's less and swap: rows and columns are turned.
-/
set_option maxRecDepth 100000
set_option maxHeartbeats 16000000
namespace Go.Proofs.YtcfcdbeemhjhgaaDoor
open Go.RowKit
theorem whless {w0 w:World} {R:List Res} {p n i k f gw cH cS cR:Nat} {pH pS pR:Option Addr} {QH QS QR:List Rw} {s:HS} (hp0:0 < p) (hp2:p < 4294967296) (hS:Sep w0 (.blk gw [.int .u64 ((p:Nat):Int),.slice pH n cH,.slice pS n cS,.slice pR n cR] 59 :: .lst 29 1 pH n cH (mmE QH) :: .lst 29 1 pS n cS (mmE QS) :: .lst 29 1 pR n cR (mmE QR) :: R) w) (hQH:nums QH = s.H) (hQS:nums QS = s.S) (hQR:nums QR = s.R) (hok:HOk p n s) (hn:n ≤ 1000) (hi:i < n) (hk:k < n) (hne:i ≠ k) (hf:f < p) :
  Calls Tryd.prog 37 #[.pointer (some ⟨gw,0,none⟩),.int .i64 ((i:Nat):Int),.int .i64 ((k:Nat):Int),.int .u32 ((f:Nat):Int)] w (RetS (HsX gw p n pH cH pS cS pR cR (s.less p i k f)) w0 R):=by
 have hHl:QH.length = n:=by rw [nums_lenQ hQH]; exact hok.hl
 have hSl:QS.length = n:=by rw [nums_lenQ hQS]; exact hok.sl
 have hRl:QR.length = n:=by rw [nums_lenQ hQR]; exact hok.rl
 have sH:Shp p n (nums QH):=by rw [hQH]; exact hok.hs
 have sS:Shp p n (nums QS):=by rw [hQS]; exact hok.ss
 have sR:Shp p n (nums QR):=by rw [hQR]; exact hok.rs
 refine went Tryd.func37 rfl (n:=188) rfl rfl ?_
 refine wSq (wsr (wmv (v:=.pointer (some ⟨gw,0,none⟩)) rfl rfl ?_))
 refine wl rfl (oNC (a:=⟨gw,0,none⟩) rfl rfl (ev rfl rfl) ?_)
 refine wl rfl (oFA (g:=gw) (off:=0) 1 rfl rfl (ev rfl rfl) Tryd.runUnderlying59 rfl Tryd.sizeOf23 rfl ?_)
 refine wl rfl (oL1 (v:=.slice pH n cH) ⟨Tryd.isAgg23,Tryd.sizeOf23⟩ hS 0 rfl rfl (ev rfl rfl) rfl rfl ?_)
 refine wl rfl (olen rfl rfl rfl Tryd.runUnderlying23 (p:=pH) (k:=n) (m:=cH) (ev rfl rfl) ?_)
 refine wmvc ?_
 refine wn1 (wBk ?_)
 obtain ⟨gH,hgH⟩:=hS.lstPtr 1 rfl (by omega)
 obtain ⟨gS,hgS⟩:=hS.lstPtr 2 rfl (by omega)
 obtain ⟨gR,hgR⟩:=hS.lstPtr 3 rfl (by omega)
 obtain ⟨⟨pa,ca,xa⟩,hqa⟩:∃ q,(QH)[i]? = some q:=⟨_,List.getElem?_eq_getElem (by omega)⟩
 have hda:(nums (QH)).getD i [] = xa:=getD_get (nums_get hqa)
 obtain ⟨hna,hlta⟩:=sH.get (nums_get hqa)
 simp only at hna hlta
 obtain ⟨ga,hga⟩:=hS.mPtr 1 rfl hqa (by show 0 < xa.length; omega)
 obtain ⟨⟨pb,cb,xb⟩,hqb⟩:∃ q,(QH)[k]? = some q:=⟨_,List.getElem?_eq_getElem (by omega)⟩
 have hdb:(nums (QH)).getD k [] = xb:=getD_get (nums_get hqb)
 obtain ⟨hnb,hltb⟩:=sH.get (nums_get hqb)
 simp only at hnb hltb
 obtain ⟨gb,hgb⟩:=hS.mPtr 1 rfl hqb (by show 0 < xb.length; omega)
 obtain ⟨⟨pu,cu,xu⟩,hqu⟩:∃ q,(QR)[i]? = some q:=⟨_,List.getElem?_eq_getElem (by omega)⟩
 have hdu:(nums (QR)).getD i [] = xu:=getD_get (nums_get hqu)
 obtain ⟨hnu,hltu⟩:=sR.get (nums_get hqu)
 simp only at hnu hltu
 obtain ⟨gu,hgu⟩:=hS.mPtr 3 rfl hqu (by show 0 < xu.length; omega)
 obtain ⟨⟨pv,cv,xv⟩,hqv⟩:∃ q,(QR)[k]? = some q:=⟨_,List.getElem?_eq_getElem (by omega)⟩
 have hdv:(nums (QR)).getD k [] = xv:=getD_get (nums_get hqv)
 obtain ⟨hnv,hltv⟩:=sR.get (nums_get hqv)
 simp only at hnv hltv
 obtain ⟨gv,hgv⟩:=hS.mPtr 3 rfl hqv (by show 0 < xv.length; omega)
 rw [← qmix0 (new:=lessR p f xa xb) hqa, ← qmix0 (new:=lessR p f xu xv) hqu] at hS
 refine wLp (σ := Nat) (fun j a9 w' => ∃ (fb:Nat → Value),a9 = act 188 (sets fb [(0,.pointer (some ⟨gw,0,none⟩)),(1,.int .i64 (i:Int)),(2,.int .i64 (k:Int)),(3,.int .u32 (f:Int)),(14,.int .i64 (n:Int)),(15,.int .i64 (j:Int))]) ∧ Sep w0 (.blk gw [.int .u64 (p:Int),.slice pH n cH,.slice pS n cS,.slice pR n cR] 59 :: .lst 29 1 pH n cH (mmE (QH.set i ⟨pa,ca,mixR (lessR p f xa xb) xa j⟩)) :: .lst 29 1 pS n cS (mmE QS) :: .lst 29 1 pR n cR (mmE (QR.set i ⟨pu,cu,mixR (lessR p f xu xv) xu j⟩)) :: R) w' ∧ (j ≤ n)) (fun j => n - j) (0) ⟨_,aSs ⟨rfl,rfl,rfl,rfl,rfl,rfl,trivial⟩,hS,Nat.zero_le _⟩ ?_
 clear hS; rintro j _ w1 ⟨fb,rfl,hS,hj⟩
 refine wsr ?_
 by_cases hjn:j < n
 ·
  have hma:(mixR (lessR p f xa xb) xa j).length = n:=by rw [mixR_len (lessR_len (by omega)) (by omega)]; exact hna
  have hza:nd (mixR (lessR p f xa xb) xa j) j = nd xa j:=by rw [mixR_nd (lessR_len (by omega)) (by omega),if_neg (Nat.lt_irrefl _)]
  have hxa:=lt_nd hlta hp0 j
  have hyb:=lt_nd hltb hp0 j
  have hlb:=Nat.mod_lt (f * nd xb j) hp0
  have hmu:(mixR (lessR p f xu xv) xu j).length = n:=by rw [mixR_len (lessR_len (by omega)) (by omega)]; exact hnu
  have hzu:nd (mixR (lessR p f xu xv) xu j) j = nd xu j:=by rw [mixR_nd (lessR_len (by omega)) (by omega),if_neg (Nat.lt_irrefl _)]
  have hxu:=lt_nd hltu hp0 j
  have hyv:=lt_nd hltv hp0 j
  have hlv:=Nat.mod_lt (f * nd xv j) hp0
  refine wbt (u:=.int .i64 (j:Int)) (v:=.int .i64 (n:Int)) rfl rfl rfl rfl (bLs (decide_eq_true (by omega))) ?_
  refine wn1 (wSq ?_)
  refine wT (ev rfl rfl) ?_
  refine wk2 (wmv (v:=.int .i64 (j:Int)) rfl rfl ?_)
  refine wav (v:=.int .i64 (j:Int)) rfl rfl ?_
  refine wn1 (wSq ?_)
  refine wSg 40 [18,19,20,21,22,23,24,25,26,27,28,29,30,31,32,33,34,35,36,37,38,39,40,41,42,43,44,45,46,47,48,49,50,51,52,53,54,55,56,57] [[],[0],[1,0],[2,0,1],[],[3,4,0,1,2],[5,0,1,2,3,4],[],[],[8],[9,8],[10,8,9],[],[12],[13,12],[14,12,13],[],[15,16,12,13,14],[17,12,13,14,15,16],[],[18,19,12,13,14,15,16,17],[20,12,13,14,15,16,17,18,19],[],[22],[23,22],[24,22,23],[],[],[27],[28,27],[29,27,28],[],[30,31,27,28,29],[32,27,28,29,30,31],[],[33,34,27,28,29,30,31,32],[35,27,28,29,30,31,32,33,34],[25,26,36,22,23,24,27,28,29,30,31,32,33,34,35],[11,21,37,8,9,10,12,13,14,15,16,17,18,19,20,22,23,24,25,26,27,28,29,30,31,32,33,34,35,36],[6,7,0,1,2,3,4,5,8,9,10,11,12,13,14,15,16,17,18,19,20,21,22,23,24,25,26,27,28,29,30,31,32,33,34,35,36,37,38]] [] [] [] (fun i9 => ([iSv (.pointer (some ⟨gw,0,none⟩)),iSv (.pointer (some ⟨gw,0,none⟩)),iSv (.pointer (some ⟨gw,1,none⟩)),iSv (.slice pH n cH),iSv (.int .i64 (i:Int)),iSv (.pointer (some ⟨gH,(0 + i * 1),none⟩)),iSv (.slice pa n ca),iSv (.int .i64 (j:Int)),iSv (.pointer (some ⟨gw,0,none⟩)),iSv (.pointer (some ⟨gw,0,none⟩)),iSv (.pointer (some ⟨gw,0,none⟩)),iSv (.agg #[.int .u64 (p:Int)]),iSv (.pointer (some ⟨gw,0,none⟩)),iSv (.pointer (some ⟨gw,0,none⟩)),iSv (.pointer (some ⟨gw,1,none⟩)),iSv (.slice pH n cH),iSv (.int .i64 (i:Int)),iSv (.pointer (some ⟨gH,(0 + i * 1),none⟩)),iSv (.slice pa n ca),iSv (.int .i64 (j:Int)),iSv (.pointer (some ⟨ga,j,none⟩)),iSv (.int .u32 (((nd (mixR (lessR p f xa xb) xa j) j:Nat):Int))),iSv (.pointer (some ⟨gw,0,none⟩)),iSv (.pointer (some ⟨gw,0,none⟩)),iSv (.pointer (some ⟨gw,0,none⟩)),iSv (.agg #[.int .u64 (p:Int)]),iSv (.int .u32 (f:Int)),iSv (.pointer (some ⟨gw,0,none⟩)),iSv (.pointer (some ⟨gw,0,none⟩)),iSv (.pointer (some ⟨gw,1,none⟩)),iSv (.slice pH n cH),iSv (.int .i64 (k:Int)),iSv (.pointer (some ⟨gH,(0 + k * 1),none⟩)),iSv (.slice pb n cb),iSv (.int .i64 (j:Int)),iSv (.pointer (some ⟨gb,j,none⟩)),iSv (.int .u32 ((nd xb j:Nat):Int)),iSv (.int .u32 (((f * (nd xb j) % p:Nat):Int))),iSv (.int .u32 (((((nd (mixR (lessR p f xa xb) xa j) j) + p - (f * (nd xb j) % p)) % p:Nat):Int))),iSv (.pointer (some ⟨ga,j,none⟩))]:List (List Value → Tell)).getD i9 (fun _ _ _ => False)) hNi (fun d _ _ _ _ h => (by cases d <;> exact h)) (by kernel_rfl) (by kernel_rfl) (by kernel_rfl) hS ?_ ?_
  ·
   refine stM rfl rfl rfl rfl rfl (fun _=>isI) ?_
   refine stT rfl (fun hT hS=>?_) ?_
   ·obtain ⟨hv0,hr0⟩:=hT 0 18 rfl rfl
    obtain hS:=(hS.flat1 hr0).front1
    exact inNo rfl (oNC (a:=⟨gw,0,none⟩) rfl rfl (ev rfl hv0) (nSm rfl isI))
   refine stT rfl (fun hT hS=>?_) ?_
   ·obtain ⟨hv1,hr1⟩:=hT 1 19 rfl rfl
    obtain hS:=(hS.flat1 hr1).front1
    exact inNo rfl (oFA (g:=gw) (off:=0) 1 rfl rfl (ev rfl hv1) Tryd.runUnderlying59 rfl Tryd.sizeOf23 rfl (nSm rfl isI))
   refine stT rfl (fun hT hS=>?_) ?_
   ·obtain ⟨hv2,hr2⟩:=hT 2 20 rfl rfl
    obtain hS:=(hS.flat1 hr2).front1
    exact inNo rfl (oL1 (v:=.slice pH n cH) ⟨Tryd.isAgg23,Tryd.sizeOf23⟩ hS 0 rfl rfl (ev rfl hv2) rfl rfl (nSm rfl isI))
   refine stM rfl rfl rfl rfl rfl (fun _=>isI) ?_
   refine stT rfl (fun hT hS=>?_) ?_
   ·obtain ⟨hv3,hr3⟩:=hT 3 21 rfl rfl
    obtain ⟨hv4,hr4⟩:=hT 4 22 rfl rfl
    obtain hS:=(hS.flat2 hr3 hr4).front2
    exact inNo rfl (oIx (p:=pH) (g:=gH) (off:=0) (m:=n) (k:=i) (j:=(0 + i * 1)) rfl rfl Tryd.runUnderlying23 Tryd.sizeOf29 (ev rfl hv3) hgH (ev rfl hv4) (by omega) rfl (nSm rfl isI))
   refine stT rfl (fun hT hS=>?_) ?_
   ·obtain ⟨hv5,hr5⟩:=hT 5 23 rfl rfl
    obtain hS:=(hS.flat1 hr5).front1
    exact inNo rfl (oLc (v:=.slice pa n ca) ⟨Tryd.isAgg29,Tryd.sizeOf29⟩ rfl rfl (ev (v:=.pointer (some ⟨gH,(0 + i * 1),none⟩)) rfl hv5) (hS.mRow 1 rfl (qset_self hqa) hma hgH) (nSm rfl isI))
   refine stM rfl rfl rfl rfl rfl (fun _=>isI) ?_
   refine stM rfl rfl rfl rfl rfl (fun _=>isI) ?_
   refine stT rfl (fun hT hS=>?_) ?_
   ·obtain ⟨hv8,hr8⟩:=hT 8 26 rfl rfl
    obtain hS:=(hS.flat1 hr8).front1
    exact inNo rfl (oNC (a:=⟨gw,0,none⟩) rfl rfl (ev rfl hv8) (nSm rfl isI))
   refine stT rfl (fun hT hS=>?_) ?_
   ·obtain ⟨hv9,hr9⟩:=hT 9 27 rfl rfl
    obtain hS:=(hS.flat1 hr9).front1
    exact inNo rfl (oFA (g:=gw) (off:=0) 0 rfl rfl (ev rfl hv9) Tryd.runUnderlying59 rfl Tryd.sizeOf57 rfl (nSm rfl isI))
   refine stT rfl (fun hT hS=>?_) ?_
   ·obtain ⟨hv10,hr10⟩:=hT 10 28 rfl rfl
    obtain hS:=(hS.flat1 hr10).front1
    exact inNo rfl (oLd (vs:=[.int .u64 (p:Int)]) ⟨Tryd.isAgg57,Tryd.sizeOf57⟩ hS 0 rfl rfl (ev rfl hv10) rfl rfl rfl (nSm rfl isI))
   refine stM rfl rfl rfl rfl rfl (fun _=>isI) ?_
   refine stT rfl (fun hT hS=>?_) ?_
   ·obtain ⟨hv12,hr12⟩:=hT 12 30 rfl rfl
    obtain hS:=(hS.flat1 hr12).front1
    exact inNo rfl (oNC (a:=⟨gw,0,none⟩) rfl rfl (ev rfl hv12) (nSm rfl isI))
   refine stT rfl (fun hT hS=>?_) ?_
   ·obtain ⟨hv13,hr13⟩:=hT 13 31 rfl rfl
    obtain hS:=(hS.flat1 hr13).front1
    exact inNo rfl (oFA (g:=gw) (off:=0) 1 rfl rfl (ev rfl hv13) Tryd.runUnderlying59 rfl Tryd.sizeOf23 rfl (nSm rfl isI))
   refine stT rfl (fun hT hS=>?_) ?_
   ·obtain ⟨hv14,hr14⟩:=hT 14 32 rfl rfl
    obtain hS:=(hS.flat1 hr14).front1
    exact inNo rfl (oL1 (v:=.slice pH n cH) ⟨Tryd.isAgg23,Tryd.sizeOf23⟩ hS 0 rfl rfl (ev rfl hv14) rfl rfl (nSm rfl isI))
   refine stM rfl rfl rfl rfl rfl (fun _=>isI) ?_
   refine stT rfl (fun hT hS=>?_) ?_
   ·obtain ⟨hv15,hr15⟩:=hT 15 33 rfl rfl
    obtain ⟨hv16,hr16⟩:=hT 16 34 rfl rfl
    obtain hS:=(hS.flat2 hr15 hr16).front2
    exact inNo rfl (oIx (p:=pH) (g:=gH) (off:=0) (m:=n) (k:=i) (j:=(0 + i * 1)) rfl rfl Tryd.runUnderlying23 Tryd.sizeOf29 (ev rfl hv15) hgH (ev rfl hv16) (by omega) rfl (nSm rfl isI))
   refine stT rfl (fun hT hS=>?_) ?_
   ·obtain ⟨hv17,hr17⟩:=hT 17 35 rfl rfl
    obtain hS:=(hS.flat1 hr17).front1
    exact inNo rfl (oLc (v:=.slice pa n ca) ⟨Tryd.isAgg29,Tryd.sizeOf29⟩ rfl rfl (ev (v:=.pointer (some ⟨gH,(0 + i * 1),none⟩)) rfl hv17) (hS.mRow 1 rfl (qset_self hqa) hma hgH) (nSm rfl isI))
   refine stM rfl rfl rfl rfl rfl (fun _=>isI) ?_
   refine stT rfl (fun hT hS=>?_) ?_
   ·obtain ⟨hv18,hr18⟩:=hT 18 36 rfl rfl
    obtain ⟨hv19,hr19⟩:=hT 19 37 rfl rfl
    obtain hS:=(hS.flat2 hr18 hr19).front2
    exact inNo rfl (oIx (p:=pa) (g:=ga) (off:=0) (m:=n) (k:=j) (j:=j) rfl rfl Tryd.runUnderlying29 Tryd.sizeOf24 (ev rfl hv18) hga (ev rfl hv19) (by omega) (by simp) (nSm rfl isI))
   refine stT rfl (fun hT hS=>?_) ?_
   ·obtain ⟨hv20,hr20⟩:=hT 20 38 rfl rfl
    obtain hS:=(hS.flat1 hr20).front1
    exact inNo rfl (oLc (v:=.int .u32 (((nd (mixR (lessR p f xa xb) xa j) j:Nat):Int))) one32 rfl rfl (ev (v:=.pointer (some ⟨ga,j,none⟩)) rfl hv20) (hS.mCell 1 rfl (qset_self hqa) hga (by omega)) (nSm rfl isI))
   refine stM rfl rfl rfl rfl rfl (fun _=>isI) ?_
   refine stT rfl (fun hT hS=>?_) ?_
   ·obtain ⟨hv22,hr22⟩:=hT 22 40 rfl rfl
    obtain hS:=(hS.flat1 hr22).front1
    exact inNo rfl (oNC (a:=⟨gw,0,none⟩) rfl rfl (ev rfl hv22) (nSm rfl isI))
   refine stT rfl (fun hT hS=>?_) ?_
   ·obtain ⟨hv23,hr23⟩:=hT 23 41 rfl rfl
    obtain hS:=(hS.flat1 hr23).front1
    exact inNo rfl (oFA (g:=gw) (off:=0) 0 rfl rfl (ev rfl hv23) Tryd.runUnderlying59 rfl Tryd.sizeOf57 rfl (nSm rfl isI))
   refine stT rfl (fun hT hS=>?_) ?_
   ·obtain ⟨hv24,hr24⟩:=hT 24 42 rfl rfl
    obtain hS:=(hS.flat1 hr24).front1
    exact inNo rfl (oLd (vs:=[.int .u64 (p:Int)]) ⟨Tryd.isAgg57,Tryd.sizeOf57⟩ hS 0 rfl rfl (ev rfl hv24) rfl rfl rfl (nSm rfl isI))
   refine stM rfl rfl rfl rfl rfl (fun _=>isI) ?_
   refine stM rfl rfl rfl rfl rfl (fun _=>isI) ?_
   refine stT rfl (fun hT hS=>?_) ?_
   ·obtain ⟨hv27,hr27⟩:=hT 27 45 rfl rfl
    obtain hS:=(hS.flat1 hr27).front1
    exact inNo rfl (oNC (a:=⟨gw,0,none⟩) rfl rfl (ev rfl hv27) (nSm rfl isI))
   refine stT rfl (fun hT hS=>?_) ?_
   ·obtain ⟨hv28,hr28⟩:=hT 28 46 rfl rfl
    obtain hS:=(hS.flat1 hr28).front1
    exact inNo rfl (oFA (g:=gw) (off:=0) 1 rfl rfl (ev rfl hv28) Tryd.runUnderlying59 rfl Tryd.sizeOf23 rfl (nSm rfl isI))
   refine stT rfl (fun hT hS=>?_) ?_
   ·obtain ⟨hv29,hr29⟩:=hT 29 47 rfl rfl
    obtain hS:=(hS.flat1 hr29).front1
    exact inNo rfl (oL1 (v:=.slice pH n cH) ⟨Tryd.isAgg23,Tryd.sizeOf23⟩ hS 0 rfl rfl (ev rfl hv29) rfl rfl (nSm rfl isI))
   refine stM rfl rfl rfl rfl rfl (fun _=>isI) ?_
   refine stT rfl (fun hT hS=>?_) ?_
   ·obtain ⟨hv30,hr30⟩:=hT 30 48 rfl rfl
    obtain ⟨hv31,hr31⟩:=hT 31 49 rfl rfl
    obtain hS:=(hS.flat2 hr30 hr31).front2
    exact inNo rfl (oIx (p:=pH) (g:=gH) (off:=0) (m:=n) (k:=k) (j:=(0 + k * 1)) rfl rfl Tryd.runUnderlying23 Tryd.sizeOf29 (ev rfl hv30) hgH (ev rfl hv31) (by omega) rfl (nSm rfl isI))
   refine stT rfl (fun hT hS=>?_) ?_
   ·obtain ⟨hv32,hr32⟩:=hT 32 50 rfl rfl
    obtain hS:=(hS.flat1 hr32).front1
    exact inNo rfl (oLc (v:=.slice pb n cb) ⟨Tryd.isAgg29,Tryd.sizeOf29⟩ rfl rfl (ev (v:=.pointer (some ⟨gH,(0 + k * 1),none⟩)) rfl hv32) (hS.mRow 1 rfl ((List.getElem?_set_ne hne).trans hqb) hnb hgH) (nSm rfl isI))
   refine stM rfl rfl rfl rfl rfl (fun _=>isI) ?_
   refine stT rfl (fun hT hS=>?_) ?_
   ·obtain ⟨hv33,hr33⟩:=hT 33 51 rfl rfl
    obtain ⟨hv34,hr34⟩:=hT 34 52 rfl rfl
    obtain hS:=(hS.flat2 hr33 hr34).front2
    exact inNo rfl (oIx (p:=pb) (g:=gb) (off:=0) (m:=n) (k:=j) (j:=j) rfl rfl Tryd.runUnderlying29 Tryd.sizeOf24 (ev rfl hv33) hgb (ev rfl hv34) (by omega) (by simp) (nSm rfl isI))
   refine stT rfl (fun hT hS=>?_) ?_
   ·obtain ⟨hv35,hr35⟩:=hT 35 53 rfl rfl
    obtain hS:=(hS.flat1 hr35).front1
    exact inNo rfl (oLc (v:=.int .u32 ((nd xb j:Nat):Int)) one32 rfl rfl (ev (v:=.pointer (some ⟨gb,j,none⟩)) rfl hv35) (hS.mCell 1 rfl ((List.getElem?_set_ne hne).trans hqb) hgb (by omega)) (nSm rfl isI))
   refine stT rfl (fun hT hS=>?_) ?_
   ·obtain ⟨hv25,hr25⟩:=hT 25 43 rfl rfl
    obtain ⟨hv26,hr26⟩:=hT 26 44 rfl rfl
    obtain ⟨hv36,hr36⟩:=hT 36 54 rfl rfl
    obtain hS:=(hS.flat3 hr25 hr26 hr36).front3
    exact .inl ⟨wNo rfl,oCl rfl rfl Tryd.call27 rfl (whmul (a:=f) (b:=(nd xb j)) hp0 hp2 (by omega) (by omega)) (args3 (ev rfl hv25) (ev rfl hv26) (ev rfl hv36)) cNw⟩
   refine stT rfl (fun hT hS=>?_) ?_
   ·obtain ⟨hv11,hr11⟩:=hT 11 29 rfl rfl
    obtain ⟨hv21,hr21⟩:=hT 21 39 rfl rfl
    obtain ⟨hv37,hr37⟩:=hT 37 55 rfl rfl
    obtain hS:=(hS.flat3 hr11 hr21 hr37).front3
    exact .inl ⟨wNo rfl,oCl rfl rfl Tryd.call68 rfl (whsub (a:=(nd (mixR (lessR p f xa xb) xa j) j)) (b:=(f * (nd xb j) % p)) hp0 hp2 (by omega) (by omega) (by omega)) (args3 (ev rfl hv11) (ev rfl hv21) (ev rfl hv37)) cNw⟩
   refine stT rfl (fun hT hS=>?_) ?_
   ·obtain ⟨hv6,hr6⟩:=hT 6 24 rfl rfl
    obtain ⟨hv7,hr7⟩:=hT 7 25 rfl rfl
    obtain hS:=(hS.flat2 hr6 hr7).front2
    exact inNo rfl (oIx (p:=pa) (g:=ga) (off:=0) (m:=n) (k:=j) (j:=j) rfl rfl Tryd.runUnderlying29 Tryd.sizeOf24 (ev rfl hv6) hga (ev rfl hv7) (by omega) (by simp) (nSm rfl isI))
   exact sNi
  intro vs ρ w2 f' hf hT hS
  obtain ⟨hv0,hr0⟩:=hT 0 (by decide)
  obtain ⟨hv1,hr1⟩:=hT 1 (by decide)
  obtain ⟨hv2,hr2⟩:=hT 2 (by decide)
  obtain ⟨hv3,hr3⟩:=hT 3 (by decide)
  obtain ⟨hv4,hr4⟩:=hT 4 (by decide)
  obtain ⟨hv5,hr5⟩:=hT 5 (by decide)
  obtain ⟨hv6,hr6⟩:=hT 6 (by decide)
  obtain ⟨hv7,hr7⟩:=hT 7 (by decide)
  obtain ⟨hv8,hr8⟩:=hT 8 (by decide)
  obtain ⟨hv9,hr9⟩:=hT 9 (by decide)
  obtain ⟨hv10,hr10⟩:=hT 10 (by decide)
  obtain ⟨hv11,hr11⟩:=hT 11 (by decide)
  obtain ⟨hv12,hr12⟩:=hT 12 (by decide)
  obtain ⟨hv13,hr13⟩:=hT 13 (by decide)
  obtain ⟨hv14,hr14⟩:=hT 14 (by decide)
  obtain ⟨hv15,hr15⟩:=hT 15 (by decide)
  obtain ⟨hv16,hr16⟩:=hT 16 (by decide)
  obtain ⟨hv17,hr17⟩:=hT 17 (by decide)
  obtain ⟨hv18,hr18⟩:=hT 18 (by decide)
  obtain ⟨hv19,hr19⟩:=hT 19 (by decide)
  obtain ⟨hv20,hr20⟩:=hT 20 (by decide)
  obtain ⟨hv21,hr21⟩:=hT 21 (by decide)
  obtain ⟨hv22,hr22⟩:=hT 22 (by decide)
  obtain ⟨hv23,hr23⟩:=hT 23 (by decide)
  obtain ⟨hv24,hr24⟩:=hT 24 (by decide)
  obtain ⟨hv25,hr25⟩:=hT 25 (by decide)
  obtain ⟨hv26,hr26⟩:=hT 26 (by decide)
  obtain ⟨hv27,hr27⟩:=hT 27 (by decide)
  obtain ⟨hv28,hr28⟩:=hT 28 (by decide)
  obtain ⟨hv29,hr29⟩:=hT 29 (by decide)
  obtain ⟨hv30,hr30⟩:=hT 30 (by decide)
  obtain ⟨hv31,hr31⟩:=hT 31 (by decide)
  obtain ⟨hv32,hr32⟩:=hT 32 (by decide)
  obtain ⟨hv33,hr33⟩:=hT 33 (by decide)
  obtain ⟨hv34,hr34⟩:=hT 34 (by decide)
  obtain ⟨hv35,hr35⟩:=hT 35 (by decide)
  obtain ⟨hv36,hr36⟩:=hT 36 (by decide)
  obtain ⟨hv37,hr37⟩:=hT 37 (by decide)
  obtain ⟨hv38,hr38⟩:=hT 38 (by decide)
  obtain ⟨hv39,hr39⟩:=hT 39 (by decide)
  simp only [pool,if_true,hr0,hr1,hr2,hr3,hr4,hr5,hr6,hr7,hr8,hr9,hr10,hr11,hr12,hr13,hr14,hr15,hr16,hr17,hr18,hr19,hr20,hr21,hr22,hr23,hr24,hr25,hr26,hr27,hr28,hr29,hr30,hr31,hr32,hr33,hr34,hr35,hr36,hr37,hr38,hr39,List.nil_append,List.cons_append,List.append_nil] at hS
  simp only [layf,hv0,hv1,hv2,hv3,hv4,hv5,hv6,hv7,hv8,hv9,hv10,hv11,hv12,hv13,hv14,hv15,hv16,hv17,hv18,hv19,hv20,hv21,hv22,hv23,hv24,hv25,hv26,hv27,hv28,hv29,hv30,hv31,hv32,hv33,hv34,hv35,hv36,hv37,hv38,hv39] at hf
  subst hf; clear hT hv0 hv1 hv2 hv3 hv4 hv5 hv6 hv7 hv8 hv9 hv10 hv11 hv12 hv13 hv14 hv15 hv16 hv17 hv18 hv19 hv20 hv21 hv22 hv23 hv24 hv25 hv26 hv27 hv28 hv29 hv30 hv31 hv32 hv33 hv34 hv35 hv36 hv37 hv38 hv39 hr0 hr1 hr2 hr3 hr4 hr5 hr6 hr7 hr8 hr9 hr10 hr11 hr12 hr13 hr14 hr15 hr16 hr17 hr18 hr19 hr20 hr21 hr22 hr23 hr24 hr25 hr26 hr27 hr28 hr29 hr30 hr31 hr32 hr33 hr34 hr35 hr36 hr37 hr38 hr39
  obtain hS:=(show Sep w0 (.lst 29 1 pH n cH (mmE (QH.set i ⟨pa,ca,mixR (lessR p f xa xb) xa j⟩)) :: .blk gw [.int .u64 (((p:Nat):Int)),.slice pH n cH,.slice pS n cS,.slice pR n cR] 59 :: .lst 29 1 pS n cS (mmE QS) :: .lst 29 1 pR n cR (mmE (QR.set i ⟨pu,cu,mixR (lessR p f xu xv) xu j⟩)) :: R) w2 from Sep.pickT [.blk gw [.int .u64 (((p:Nat):Int)),.slice pH n cH,.slice pS n cS,.slice pR n cR] 59,.lst 29 1 pH n cH (mmE (QH.set i ⟨pa,ca,mixR (lessR p f xa xb) xa j⟩)),.lst 29 1 pS n cS (mmE QS),.lst 29 1 pR n cR (mmE (QR.set i ⟨pu,cu,mixR (lessR p f xu xv) xu j⟩))] [.lst 29 1 pH n cH (mmE (QH.set i ⟨pa,ca,mixR (lessR p f xa xb) xa j⟩)),.blk gw [.int .u64 (((p:Nat):Int)),.slice pH n cH,.slice pS n cS,.slice pR n cR] 59,.lst 29 1 pS n cS (mmE QS),.lst 29 1 pR n cR (mmE (QR.set i ⟨pu,cu,mixR (lessR p f xu xv) xu j⟩))] hS [1,0,2,3] (by decide) rfl)
  refine wLt 40 rfl (by kernel_rfl) (ostoreM (i:=i) (g:=ga) (k:=j) (u:=(((nd (mixR (lessR p f xa xb) xa j) j) + p - (f * (nd xb j) % p)) % p)) Tryd.sizeOf24 hS rfl rfl (ev (v:=.pointer (some ⟨ga,j,none⟩)) rfl rfl) (ev (v:=.int .u32 (((((nd (mixR (lessR p f xa xb) xa j) j) + p - (f * (nd xb j) % p)) % p:Nat):Int))) rfl rfl) (qset_self hqa) hga (show j < List.length (mixR (lessR p f xa xb) xa j) by omega) (by have:=Nat.mod_lt (nd (mixR (lessR p f xa xb) xa j) j + p - f * nd xb j % p) hp0; omega) ?_)
  clear hS; intro w3 hS
  refine ⟨hNi,?_⟩
  refine wdone rfl ?_
  refine tNo ?_
  refine wSg 40 [58,59,60,61,62,63,64,65,66,67,68,69,70,71,72,73,74,75,76,77,78,79,80,81,82,83,84,85,86,87,88,89,90,91,92,93,94,95,96,97] [[],[0],[1,0],[2,0,1],[],[3,4,0,1,2],[5,0,1,2,3,4],[],[],[8],[9,8],[10,8,9],[],[12],[13,12],[14,12,13],[],[15,16,12,13,14],[17,12,13,14,15,16],[],[18,19,12,13,14,15,16,17],[20,12,13,14,15,16,17,18,19],[],[22],[23,22],[24,22,23],[],[],[27],[28,27],[29,27,28],[],[30,31,27,28,29],[32,27,28,29,30,31],[],[33,34,27,28,29,30,31,32],[35,27,28,29,30,31,32,33,34],[25,26,36,22,23,24,27,28,29,30,31,32,33,34,35],[11,21,37,8,9,10,12,13,14,15,16,17,18,19,20,22,23,24,25,26,27,28,29,30,31,32,33,34,35,36],[6,7,0,1,2,3,4,5,8,9,10,11,12,13,14,15,16,17,18,19,20,21,22,23,24,25,26,27,28,29,30,31,32,33,34,35,36,37,38]] [] [] [] (fun i9 => ([iSv (.pointer (some ⟨gw,0,none⟩)),iSv (.pointer (some ⟨gw,0,none⟩)),iSv (.pointer (some ⟨gw,3,none⟩)),iSv (.slice pR n cR),iSv (.int .i64 (i:Int)),iSv (.pointer (some ⟨gR,(0 + i * 1),none⟩)),iSv (.slice pu n cu),iSv (.int .i64 (j:Int)),iSv (.pointer (some ⟨gw,0,none⟩)),iSv (.pointer (some ⟨gw,0,none⟩)),iSv (.pointer (some ⟨gw,0,none⟩)),iSv (.agg #[.int .u64 (p:Int)]),iSv (.pointer (some ⟨gw,0,none⟩)),iSv (.pointer (some ⟨gw,0,none⟩)),iSv (.pointer (some ⟨gw,3,none⟩)),iSv (.slice pR n cR),iSv (.int .i64 (i:Int)),iSv (.pointer (some ⟨gR,(0 + i * 1),none⟩)),iSv (.slice pu n cu),iSv (.int .i64 (j:Int)),iSv (.pointer (some ⟨gu,j,none⟩)),iSv (.int .u32 (((nd (mixR (lessR p f xu xv) xu j) j:Nat):Int))),iSv (.pointer (some ⟨gw,0,none⟩)),iSv (.pointer (some ⟨gw,0,none⟩)),iSv (.pointer (some ⟨gw,0,none⟩)),iSv (.agg #[.int .u64 (p:Int)]),iSv (.int .u32 (f:Int)),iSv (.pointer (some ⟨gw,0,none⟩)),iSv (.pointer (some ⟨gw,0,none⟩)),iSv (.pointer (some ⟨gw,3,none⟩)),iSv (.slice pR n cR),iSv (.int .i64 (k:Int)),iSv (.pointer (some ⟨gR,(0 + k * 1),none⟩)),iSv (.slice pv n cv),iSv (.int .i64 (j:Int)),iSv (.pointer (some ⟨gv,j,none⟩)),iSv (.int .u32 ((nd xv j:Nat):Int)),iSv (.int .u32 (((f * (nd xv j) % p:Nat):Int))),iSv (.int .u32 (((((nd (mixR (lessR p f xu xv) xu j) j) + p - (f * (nd xv j) % p)) % p:Nat):Int))),iSv (.pointer (some ⟨gu,j,none⟩))]:List (List Value → Tell)).getD i9 (fun _ _ _ => False)) hNi (fun d _ _ _ _ h => (by cases d <;> exact h)) (by kernel_rfl) (by kernel_rfl) (by kernel_rfl) hS ?_ ?_
  ·
   refine stM rfl rfl rfl rfl rfl (fun _=>isI) ?_
   refine stT rfl (fun hT hS=>?_) ?_
   ·obtain ⟨hv0,hr0⟩:=hT 0 58 rfl rfl
    obtain hS:=(hS.flat1 hr0).front1
    exact inNo rfl (oNC (a:=⟨gw,0,none⟩) rfl rfl (ev rfl hv0) (nSm rfl isI))
   refine stT rfl (fun hT hS=>?_) ?_
   ·obtain ⟨hv1,hr1⟩:=hT 1 59 rfl rfl
    obtain hS:=(hS.flat1 hr1).front1
    exact inNo rfl (oFA (g:=gw) (off:=0) 3 rfl rfl (ev rfl hv1) Tryd.runUnderlying59 rfl Tryd.sizeOf23 rfl (nSm rfl isI))
   refine stT rfl (fun hT hS=>?_) ?_
   ·obtain ⟨hv2,hr2⟩:=hT 2 60 rfl rfl
    obtain hS:=(hS.flat1 hr2).front1
    exact inNo rfl (oL1 (v:=.slice pR n cR) ⟨Tryd.isAgg23,Tryd.sizeOf23⟩ hS 1 rfl rfl (ev rfl hv2) rfl rfl (nSm rfl isI))
   refine stM rfl rfl rfl rfl rfl (fun _=>isI) ?_
   refine stT rfl (fun hT hS=>?_) ?_
   ·obtain ⟨hv3,hr3⟩:=hT 3 61 rfl rfl
    obtain ⟨hv4,hr4⟩:=hT 4 62 rfl rfl
    obtain hS:=(hS.flat2 hr3 hr4).front2
    exact inNo rfl (oIx (p:=pR) (g:=gR) (off:=0) (m:=n) (k:=i) (j:=(0 + i * 1)) rfl rfl Tryd.runUnderlying23 Tryd.sizeOf29 (ev rfl hv3) hgR (ev rfl hv4) (by omega) rfl (nSm rfl isI))
   refine stT rfl (fun hT hS=>?_) ?_
   ·obtain ⟨hv5,hr5⟩:=hT 5 63 rfl rfl
    obtain hS:=(hS.flat1 hr5).front1
    exact inNo rfl (oLc (v:=.slice pu n cu) ⟨Tryd.isAgg29,Tryd.sizeOf29⟩ rfl rfl (ev (v:=.pointer (some ⟨gR,(0 + i * 1),none⟩)) rfl hv5) (hS.mRow 3 rfl (qset_self hqu) hmu hgR) (nSm rfl isI))
   refine stM rfl rfl rfl rfl rfl (fun _=>isI) ?_
   refine stM rfl rfl rfl rfl rfl (fun _=>isI) ?_
   refine stT rfl (fun hT hS=>?_) ?_
   ·obtain ⟨hv8,hr8⟩:=hT 8 66 rfl rfl
    obtain hS:=(hS.flat1 hr8).front1
    exact inNo rfl (oNC (a:=⟨gw,0,none⟩) rfl rfl (ev rfl hv8) (nSm rfl isI))
   refine stT rfl (fun hT hS=>?_) ?_
   ·obtain ⟨hv9,hr9⟩:=hT 9 67 rfl rfl
    obtain hS:=(hS.flat1 hr9).front1
    exact inNo rfl (oFA (g:=gw) (off:=0) 0 rfl rfl (ev rfl hv9) Tryd.runUnderlying59 rfl Tryd.sizeOf57 rfl (nSm rfl isI))
   refine stT rfl (fun hT hS=>?_) ?_
   ·obtain ⟨hv10,hr10⟩:=hT 10 68 rfl rfl
    obtain hS:=(hS.flat1 hr10).front1
    exact inNo rfl (oLd (vs:=[.int .u64 (p:Int)]) ⟨Tryd.isAgg57,Tryd.sizeOf57⟩ hS 1 rfl rfl (ev rfl hv10) rfl rfl rfl (nSm rfl isI))
   refine stM rfl rfl rfl rfl rfl (fun _=>isI) ?_
   refine stT rfl (fun hT hS=>?_) ?_
   ·obtain ⟨hv12,hr12⟩:=hT 12 70 rfl rfl
    obtain hS:=(hS.flat1 hr12).front1
    exact inNo rfl (oNC (a:=⟨gw,0,none⟩) rfl rfl (ev rfl hv12) (nSm rfl isI))
   refine stT rfl (fun hT hS=>?_) ?_
   ·obtain ⟨hv13,hr13⟩:=hT 13 71 rfl rfl
    obtain hS:=(hS.flat1 hr13).front1
    exact inNo rfl (oFA (g:=gw) (off:=0) 3 rfl rfl (ev rfl hv13) Tryd.runUnderlying59 rfl Tryd.sizeOf23 rfl (nSm rfl isI))
   refine stT rfl (fun hT hS=>?_) ?_
   ·obtain ⟨hv14,hr14⟩:=hT 14 72 rfl rfl
    obtain hS:=(hS.flat1 hr14).front1
    exact inNo rfl (oL1 (v:=.slice pR n cR) ⟨Tryd.isAgg23,Tryd.sizeOf23⟩ hS 1 rfl rfl (ev rfl hv14) rfl rfl (nSm rfl isI))
   refine stM rfl rfl rfl rfl rfl (fun _=>isI) ?_
   refine stT rfl (fun hT hS=>?_) ?_
   ·obtain ⟨hv15,hr15⟩:=hT 15 73 rfl rfl
    obtain ⟨hv16,hr16⟩:=hT 16 74 rfl rfl
    obtain hS:=(hS.flat2 hr15 hr16).front2
    exact inNo rfl (oIx (p:=pR) (g:=gR) (off:=0) (m:=n) (k:=i) (j:=(0 + i * 1)) rfl rfl Tryd.runUnderlying23 Tryd.sizeOf29 (ev rfl hv15) hgR (ev rfl hv16) (by omega) rfl (nSm rfl isI))
   refine stT rfl (fun hT hS=>?_) ?_
   ·obtain ⟨hv17,hr17⟩:=hT 17 75 rfl rfl
    obtain hS:=(hS.flat1 hr17).front1
    exact inNo rfl (oLc (v:=.slice pu n cu) ⟨Tryd.isAgg29,Tryd.sizeOf29⟩ rfl rfl (ev (v:=.pointer (some ⟨gR,(0 + i * 1),none⟩)) rfl hv17) (hS.mRow 3 rfl (qset_self hqu) hmu hgR) (nSm rfl isI))
   refine stM rfl rfl rfl rfl rfl (fun _=>isI) ?_
   refine stT rfl (fun hT hS=>?_) ?_
   ·obtain ⟨hv18,hr18⟩:=hT 18 76 rfl rfl
    obtain ⟨hv19,hr19⟩:=hT 19 77 rfl rfl
    obtain hS:=(hS.flat2 hr18 hr19).front2
    exact inNo rfl (oIx (p:=pu) (g:=gu) (off:=0) (m:=n) (k:=j) (j:=j) rfl rfl Tryd.runUnderlying29 Tryd.sizeOf24 (ev rfl hv18) hgu (ev rfl hv19) (by omega) (by simp) (nSm rfl isI))
   refine stT rfl (fun hT hS=>?_) ?_
   ·obtain ⟨hv20,hr20⟩:=hT 20 78 rfl rfl
    obtain hS:=(hS.flat1 hr20).front1
    exact inNo rfl (oLc (v:=.int .u32 (((nd (mixR (lessR p f xu xv) xu j) j:Nat):Int))) one32 rfl rfl (ev (v:=.pointer (some ⟨gu,j,none⟩)) rfl hv20) (hS.mCell 3 rfl (qset_self hqu) hgu (by omega)) (nSm rfl isI))
   refine stM rfl rfl rfl rfl rfl (fun _=>isI) ?_
   refine stT rfl (fun hT hS=>?_) ?_
   ·obtain ⟨hv22,hr22⟩:=hT 22 80 rfl rfl
    obtain hS:=(hS.flat1 hr22).front1
    exact inNo rfl (oNC (a:=⟨gw,0,none⟩) rfl rfl (ev rfl hv22) (nSm rfl isI))
   refine stT rfl (fun hT hS=>?_) ?_
   ·obtain ⟨hv23,hr23⟩:=hT 23 81 rfl rfl
    obtain hS:=(hS.flat1 hr23).front1
    exact inNo rfl (oFA (g:=gw) (off:=0) 0 rfl rfl (ev rfl hv23) Tryd.runUnderlying59 rfl Tryd.sizeOf57 rfl (nSm rfl isI))
   refine stT rfl (fun hT hS=>?_) ?_
   ·obtain ⟨hv24,hr24⟩:=hT 24 82 rfl rfl
    obtain hS:=(hS.flat1 hr24).front1
    exact inNo rfl (oLd (vs:=[.int .u64 (p:Int)]) ⟨Tryd.isAgg57,Tryd.sizeOf57⟩ hS 1 rfl rfl (ev rfl hv24) rfl rfl rfl (nSm rfl isI))
   refine stM rfl rfl rfl rfl rfl (fun _=>isI) ?_
   refine stM rfl rfl rfl rfl rfl (fun _=>isI) ?_
   refine stT rfl (fun hT hS=>?_) ?_
   ·obtain ⟨hv27,hr27⟩:=hT 27 85 rfl rfl
    obtain hS:=(hS.flat1 hr27).front1
    exact inNo rfl (oNC (a:=⟨gw,0,none⟩) rfl rfl (ev rfl hv27) (nSm rfl isI))
   refine stT rfl (fun hT hS=>?_) ?_
   ·obtain ⟨hv28,hr28⟩:=hT 28 86 rfl rfl
    obtain hS:=(hS.flat1 hr28).front1
    exact inNo rfl (oFA (g:=gw) (off:=0) 3 rfl rfl (ev rfl hv28) Tryd.runUnderlying59 rfl Tryd.sizeOf23 rfl (nSm rfl isI))
   refine stT rfl (fun hT hS=>?_) ?_
   ·obtain ⟨hv29,hr29⟩:=hT 29 87 rfl rfl
    obtain hS:=(hS.flat1 hr29).front1
    exact inNo rfl (oL1 (v:=.slice pR n cR) ⟨Tryd.isAgg23,Tryd.sizeOf23⟩ hS 1 rfl rfl (ev rfl hv29) rfl rfl (nSm rfl isI))
   refine stM rfl rfl rfl rfl rfl (fun _=>isI) ?_
   refine stT rfl (fun hT hS=>?_) ?_
   ·obtain ⟨hv30,hr30⟩:=hT 30 88 rfl rfl
    obtain ⟨hv31,hr31⟩:=hT 31 89 rfl rfl
    obtain hS:=(hS.flat2 hr30 hr31).front2
    exact inNo rfl (oIx (p:=pR) (g:=gR) (off:=0) (m:=n) (k:=k) (j:=(0 + k * 1)) rfl rfl Tryd.runUnderlying23 Tryd.sizeOf29 (ev rfl hv30) hgR (ev rfl hv31) (by omega) rfl (nSm rfl isI))
   refine stT rfl (fun hT hS=>?_) ?_
   ·obtain ⟨hv32,hr32⟩:=hT 32 90 rfl rfl
    obtain hS:=(hS.flat1 hr32).front1
    exact inNo rfl (oLc (v:=.slice pv n cv) ⟨Tryd.isAgg29,Tryd.sizeOf29⟩ rfl rfl (ev (v:=.pointer (some ⟨gR,(0 + k * 1),none⟩)) rfl hv32) (hS.mRow 3 rfl ((List.getElem?_set_ne hne).trans hqv) hnv hgR) (nSm rfl isI))
   refine stM rfl rfl rfl rfl rfl (fun _=>isI) ?_
   refine stT rfl (fun hT hS=>?_) ?_
   ·obtain ⟨hv33,hr33⟩:=hT 33 91 rfl rfl
    obtain ⟨hv34,hr34⟩:=hT 34 92 rfl rfl
    obtain hS:=(hS.flat2 hr33 hr34).front2
    exact inNo rfl (oIx (p:=pv) (g:=gv) (off:=0) (m:=n) (k:=j) (j:=j) rfl rfl Tryd.runUnderlying29 Tryd.sizeOf24 (ev rfl hv33) hgv (ev rfl hv34) (by omega) (by simp) (nSm rfl isI))
   refine stT rfl (fun hT hS=>?_) ?_
   ·obtain ⟨hv35,hr35⟩:=hT 35 93 rfl rfl
    obtain hS:=(hS.flat1 hr35).front1
    exact inNo rfl (oLc (v:=.int .u32 ((nd xv j:Nat):Int)) one32 rfl rfl (ev (v:=.pointer (some ⟨gv,j,none⟩)) rfl hv35) (hS.mCell 3 rfl ((List.getElem?_set_ne hne).trans hqv) hgv (by omega)) (nSm rfl isI))
   refine stT rfl (fun hT hS=>?_) ?_
   ·obtain ⟨hv25,hr25⟩:=hT 25 83 rfl rfl
    obtain ⟨hv26,hr26⟩:=hT 26 84 rfl rfl
    obtain ⟨hv36,hr36⟩:=hT 36 94 rfl rfl
    obtain hS:=(hS.flat3 hr25 hr26 hr36).front3
    exact .inl ⟨wNo rfl,oCl rfl rfl Tryd.call27 rfl (whmul (a:=f) (b:=(nd xv j)) hp0 hp2 (by omega) (by omega)) (args3 (ev rfl hv25) (ev rfl hv26) (ev rfl hv36)) cNw⟩
   refine stT rfl (fun hT hS=>?_) ?_
   ·obtain ⟨hv11,hr11⟩:=hT 11 69 rfl rfl
    obtain ⟨hv21,hr21⟩:=hT 21 79 rfl rfl
    obtain ⟨hv37,hr37⟩:=hT 37 95 rfl rfl
    obtain hS:=(hS.flat3 hr11 hr21 hr37).front3
    exact .inl ⟨wNo rfl,oCl rfl rfl Tryd.call68 rfl (whsub (a:=(nd (mixR (lessR p f xu xv) xu j) j)) (b:=(f * (nd xv j) % p)) hp0 hp2 (by omega) (by omega) (by omega)) (args3 (ev rfl hv11) (ev rfl hv21) (ev rfl hv37)) cNw⟩
   refine stT rfl (fun hT hS=>?_) ?_
   ·obtain ⟨hv6,hr6⟩:=hT 6 64 rfl rfl
    obtain ⟨hv7,hr7⟩:=hT 7 65 rfl rfl
    obtain hS:=(hS.flat2 hr6 hr7).front2
    exact inNo rfl (oIx (p:=pu) (g:=gu) (off:=0) (m:=n) (k:=j) (j:=j) rfl rfl Tryd.runUnderlying29 Tryd.sizeOf24 (ev rfl hv6) hgu (ev rfl hv7) (by omega) (by simp) (nSm rfl isI))
   exact sNi
  intro vs ρ w4 f' hf hT hS
  obtain ⟨hv0,hr0⟩:=hT 0 (by decide)
  obtain ⟨hv1,hr1⟩:=hT 1 (by decide)
  obtain ⟨hv2,hr2⟩:=hT 2 (by decide)
  obtain ⟨hv3,hr3⟩:=hT 3 (by decide)
  obtain ⟨hv4,hr4⟩:=hT 4 (by decide)
  obtain ⟨hv5,hr5⟩:=hT 5 (by decide)
  obtain ⟨hv6,hr6⟩:=hT 6 (by decide)
  obtain ⟨hv7,hr7⟩:=hT 7 (by decide)
  obtain ⟨hv8,hr8⟩:=hT 8 (by decide)
  obtain ⟨hv9,hr9⟩:=hT 9 (by decide)
  obtain ⟨hv10,hr10⟩:=hT 10 (by decide)
  obtain ⟨hv11,hr11⟩:=hT 11 (by decide)
  obtain ⟨hv12,hr12⟩:=hT 12 (by decide)
  obtain ⟨hv13,hr13⟩:=hT 13 (by decide)
  obtain ⟨hv14,hr14⟩:=hT 14 (by decide)
  obtain ⟨hv15,hr15⟩:=hT 15 (by decide)
  obtain ⟨hv16,hr16⟩:=hT 16 (by decide)
  obtain ⟨hv17,hr17⟩:=hT 17 (by decide)
  obtain ⟨hv18,hr18⟩:=hT 18 (by decide)
  obtain ⟨hv19,hr19⟩:=hT 19 (by decide)
  obtain ⟨hv20,hr20⟩:=hT 20 (by decide)
  obtain ⟨hv21,hr21⟩:=hT 21 (by decide)
  obtain ⟨hv22,hr22⟩:=hT 22 (by decide)
  obtain ⟨hv23,hr23⟩:=hT 23 (by decide)
  obtain ⟨hv24,hr24⟩:=hT 24 (by decide)
  obtain ⟨hv25,hr25⟩:=hT 25 (by decide)
  obtain ⟨hv26,hr26⟩:=hT 26 (by decide)
  obtain ⟨hv27,hr27⟩:=hT 27 (by decide)
  obtain ⟨hv28,hr28⟩:=hT 28 (by decide)
  obtain ⟨hv29,hr29⟩:=hT 29 (by decide)
  obtain ⟨hv30,hr30⟩:=hT 30 (by decide)
  obtain ⟨hv31,hr31⟩:=hT 31 (by decide)
  obtain ⟨hv32,hr32⟩:=hT 32 (by decide)
  obtain ⟨hv33,hr33⟩:=hT 33 (by decide)
  obtain ⟨hv34,hr34⟩:=hT 34 (by decide)
  obtain ⟨hv35,hr35⟩:=hT 35 (by decide)
  obtain ⟨hv36,hr36⟩:=hT 36 (by decide)
  obtain ⟨hv37,hr37⟩:=hT 37 (by decide)
  obtain ⟨hv38,hr38⟩:=hT 38 (by decide)
  obtain ⟨hv39,hr39⟩:=hT 39 (by decide)
  simp only [pool,if_true,hr0,hr1,hr2,hr3,hr4,hr5,hr6,hr7,hr8,hr9,hr10,hr11,hr12,hr13,hr14,hr15,hr16,hr17,hr18,hr19,hr20,hr21,hr22,hr23,hr24,hr25,hr26,hr27,hr28,hr29,hr30,hr31,hr32,hr33,hr34,hr35,hr36,hr37,hr38,hr39,List.nil_append,List.cons_append,List.append_nil] at hS
  simp only [layf,hv0,hv1,hv2,hv3,hv4,hv5,hv6,hv7,hv8,hv9,hv10,hv11,hv12,hv13,hv14,hv15,hv16,hv17,hv18,hv19,hv20,hv21,hv22,hv23,hv24,hv25,hv26,hv27,hv28,hv29,hv30,hv31,hv32,hv33,hv34,hv35,hv36,hv37,hv38,hv39] at hf
  subst hf; clear hT hv0 hv1 hv2 hv3 hv4 hv5 hv6 hv7 hv8 hv9 hv10 hv11 hv12 hv13 hv14 hv15 hv16 hv17 hv18 hv19 hv20 hv21 hv22 hv23 hv24 hv25 hv26 hv27 hv28 hv29 hv30 hv31 hv32 hv33 hv34 hv35 hv36 hv37 hv38 hv39 hr0 hr1 hr2 hr3 hr4 hr5 hr6 hr7 hr8 hr9 hr10 hr11 hr12 hr13 hr14 hr15 hr16 hr17 hr18 hr19 hr20 hr21 hr22 hr23 hr24 hr25 hr26 hr27 hr28 hr29 hr30 hr31 hr32 hr33 hr34 hr35 hr36 hr37 hr38 hr39
  obtain hS:=(show Sep w0 (.lst 29 1 pR n cR (mmE (QR.set i ⟨pu,cu,mixR (lessR p f xu xv) xu j⟩)) :: .lst 29 1 pH n cH (mmE (((QH.set i ⟨pa,ca,mixR (lessR p f xa xb) xa j⟩)).set i ⟨pa,ca,(mixR (lessR p f xa xb) xa j).set j (((nd (mixR (lessR p f xa xb) xa j) j) + p - (f * (nd xb j) % p)) % p)⟩)) :: .blk gw [.int .u64 (((p:Nat):Int)),.slice pH n cH,.slice pS n cS,.slice pR n cR] 59 :: .lst 29 1 pS n cS (mmE QS) :: R) w4 from Sep.pickT [.lst 29 1 pH n cH (mmE (((QH.set i ⟨pa,ca,mixR (lessR p f xa xb) xa j⟩)).set i ⟨pa,ca,(mixR (lessR p f xa xb) xa j).set j (((nd (mixR (lessR p f xa xb) xa j) j) + p - (f * (nd xb j) % p)) % p)⟩)),.blk gw [.int .u64 (((p:Nat):Int)),.slice pH n cH,.slice pS n cS,.slice pR n cR] 59,.lst 29 1 pS n cS (mmE QS),.lst 29 1 pR n cR (mmE (QR.set i ⟨pu,cu,mixR (lessR p f xu xv) xu j⟩))] [.lst 29 1 pR n cR (mmE (QR.set i ⟨pu,cu,mixR (lessR p f xu xv) xu j⟩)),.lst 29 1 pH n cH (mmE (((QH.set i ⟨pa,ca,mixR (lessR p f xa xb) xa j⟩)).set i ⟨pa,ca,(mixR (lessR p f xa xb) xa j).set j (((nd (mixR (lessR p f xa xb) xa j) j) + p - (f * (nd xb j) % p)) % p)⟩)),.blk gw [.int .u64 (((p:Nat):Int)),.slice pH n cH,.slice pS n cS,.slice pR n cR] 59,.lst 29 1 pS n cS (mmE QS)] hS [3,0,1,2] (by decide) rfl)
  refine wLt 40 rfl (by kernel_rfl) (ostoreM (i:=i) (g:=gu) (k:=j) (u:=(((nd (mixR (lessR p f xu xv) xu j) j) + p - (f * (nd xv j) % p)) % p)) Tryd.sizeOf24 hS rfl rfl (ev (v:=.pointer (some ⟨gu,j,none⟩)) rfl rfl) (ev (v:=.int .u32 (((((nd (mixR (lessR p f xu xv) xu j) j) + p - (f * (nd xv j) % p)) % p:Nat):Int))) rfl rfl) (qset_self hqu) hgu (show j < List.length (mixR (lessR p f xu xv) xu j) by omega) (by have:=Nat.mod_lt (nd (mixR (lessR p f xu xv) xu j) j + p - f * nd xv j % p) hp0; omega) ?_)
  clear hS; intro w5 hS
  refine ⟨hNi,?_⟩
  refine wdone rfl ?_
  refine blkN (tNo (wreg (wbc (u:=.int .i64 (j:Int)) (v:=.int .i64 1) (z:=.int .i64 ((j + 1:Nat):Int)) rfl rfl (bAd (wI6 (by omega) (by omega))) ?_)))
  refine wmv (v:=.int .i64 ((j + 1:Nat):Int)) rfl rfl ?_
  refine wn1 ?_
  rw [qmix_next (new:=lessR p f xa xb) (old:=xa) (lessR_len (by omega)) (by omega) (by rw [lessR_nd (by omega) (by omega),hza]),qmix_next (new:=lessR p f xu xv) (old:=xu) (lessR_len (by omega)) (by omega) (by rw [lessR_nd (by omega) (by omega),hzu])] at hS
  exact ⟨(j + 1),⟨_,aSs ⟨rfl,rfl,rfl,rfl,rfl,rfl,trivial⟩,Sep.pickT [.lst 29 1 pR n cR (mmE (QR.set i ⟨pu,cu,mixR (lessR p f xu xv) xu (j + 1)⟩)),.lst 29 1 pH n cH (mmE (QH.set i ⟨pa,ca,mixR (lessR p f xa xb) xa (j + 1)⟩)),.blk gw [.int .u64 (p:Int),.slice pH n cH,.slice pS n cS,.slice pR n cR] 59,.lst 29 1 pS n cS (mmE QS)] [.blk gw [.int .u64 (p:Int),.slice pH n cH,.slice pS n cS,.slice pR n cR] 59,.lst 29 1 pH n cH (mmE (QH.set i ⟨pa,ca,mixR (lessR p f xa xb) xa (j + 1)⟩)),.lst 29 1 pS n cS (mmE QS),.lst 29 1 pR n cR (mmE (QR.set i ⟨pu,cu,mixR (lessR p f xu xv) xu (j + 1)⟩))] hS [2,1,3,0] (by decide) rfl,by omega⟩,by omega⟩
 refine wbt (u:=.int .i64 (j:Int)) (v:=.int .i64 (n:Int)) rfl rfl rfl rfl (bLs (decide_eq_false (by omega))) ?_
 refine wn1 (wSq ?_)
 refine wF (ev rfl rfl) ?_
 refine wEx ?_
 refine tEx ?_
 refine tEx ?_
 refine blkE ?_
 refine tNo (wsr (wmv (v:=.pointer (some ⟨gw,0,none⟩)) rfl rfl ?_))
 refine wl rfl (oNC (a:=⟨gw,0,none⟩) rfl rfl (ev rfl rfl) ?_)
 refine wl rfl (oFA (g:=gw) (off:=0) 1 rfl rfl (ev rfl rfl) Tryd.runUnderlying59 rfl Tryd.sizeOf23 rfl ?_)
 refine wl rfl (oL1 (v:=.slice pH n cH) ⟨Tryd.isAgg23,Tryd.sizeOf23⟩ hS 0 rfl rfl (ev rfl rfl) rfl rfl ?_)
 refine wl rfl (olen rfl rfl rfl Tryd.runUnderlying23 (p:=pH) (k:=n) (m:=cH) (ev rfl rfl) ?_)
 refine wmvc ?_
 refine wn1 (wBk ?_)
 rw [mixR_full (new:=lessR p f xa xb) (old:=xa) (lessR_len (by omega)) (by omega),mixR_full (new:=lessR p f xu xv) (old:=xu) (lessR_len (by omega)) (by omega)] at hS
 refine wLp (σ := Nat) (fun l a9 w' => ∃ (fb:Nat → Value) (GH:List Rw) (GS:List Rw),a9 = act 188 (sets fb [(0,.pointer (some ⟨gw,0,none⟩)),(1,.int .i64 (i:Int)),(2,.int .i64 (k:Int)),(3,.int .u32 (f:Int)),(103,.int .i64 (n:Int)),(104,.int .i64 (l:Int))]) ∧ Sep w0 (.blk gw [.int .u64 (p:Int),.slice pH n cH,.slice pS n cS,.slice pR n cR] 59 :: .lst 29 1 pH n cH (mmE GH) :: .lst 29 1 pS n cS (mmE GS) :: .lst 29 1 pR n cR (mmE (QR.set i ⟨pu,cu,lessR p f xu xv⟩)) :: R) w' ∧ (l ≤ n) ∧ (nums GH = mapTo (addR p f i k) (subM p f i k s.H) l) ∧ (nums GS = mapTo (addR p f i k) s.S l)) (fun l => n - l) (0) ⟨_,(QH.set i ⟨pa,ca,lessR p f xa xb⟩),QS,aSs ⟨rfl,rfl,rfl,rfl,rfl,rfl,trivial⟩,hS,Nat.zero_le _,by rw [nums_set]; show _ = subM p f i k s.H; unfold subM; rw [← hQH,hda,hdb],hQS⟩ ?_
 clear hS; rintro l _ w2 ⟨fb,GH,GS,rfl,hS,hl,hG,hF⟩
 refine wsr ?_
 by_cases hln:l < n
 ·
  have hGl:GH.length = n:=by rw [nums_lenQ hG,mapTo_len,subM_len]; exact hok.hl
  have hFl:GS.length = n:=by rw [nums_lenQ hF,mapTo_len]; exact hok.sl
  have sG:Shp p n (nums GH):=by rw [hG]; exact Shp.mapTo (hok.hs.subM hp0 (by rw [hok.hl]; exact hi) (by rw [hok.hl]; exact hk)) (fun r hr => ⟨by show (addR p f i k r).length = n; rw [addR_len]; exact hr.1,set_lt hr.2 (Nat.mod_lt _ hp0)⟩) l (by rw [subM_len,hok.hl]; omega)
  have sF:Shp p n (nums GS):=by rw [hF]; exact Shp.mapTo hok.ss (fun r hr => ⟨by show (addR p f i k r).length = n; rw [addR_len]; exact hr.1,set_lt hr.2 (Nat.mod_lt _ hp0)⟩) l (by rw [hok.sl]; omega)
  refine wbt (u:=.int .i64 (l:Int)) (v:=.int .i64 (n:Int)) rfl rfl rfl rfl (bLs (decide_eq_true (by omega))) ?_
  refine wn1 (wSq ?_)
  refine wT (ev rfl rfl) ?_
  refine wk2 (wmv (v:=.int .i64 (l:Int)) rfl rfl ?_)
  refine wav (v:=.int .i64 (l:Int)) rfl rfl ?_
  refine wn1 (wSq ?_)
  obtain ⟨⟨pc,cc,xc⟩,hqc⟩:∃ q,(GH)[l]? = some q:=⟨_,List.getElem?_eq_getElem (by omega)⟩
  have hdc:(nums (GH)).getD l [] = xc:=getD_get (nums_get hqc)
  obtain ⟨hnc,hltc⟩:=sG.get (nums_get hqc)
  simp only at hnc hltc
  obtain ⟨gc,hgc⟩:=hS.mPtr 1 rfl hqc (by show 0 < xc.length; omega)
  obtain ⟨⟨pd,cd,xd⟩,hqd⟩:∃ q,(GS)[l]? = some q:=⟨_,List.getElem?_eq_getElem (by omega)⟩
  have hdd:(nums (GS)).getD l [] = xd:=getD_get (nums_get hqd)
  obtain ⟨hnd,hltd⟩:=sF.get (nums_get hqd)
  simp only at hnd hltd
  obtain ⟨gd,hgd⟩:=hS.mPtr 2 rfl hqd (by show 0 < xd.length; omega)
  have hwc:=lt_nd hltc hp0 k
  have hvc:=lt_nd hltc hp0 i
  have hec:=Nat.mod_lt (f * nd xc i) hp0
  have hwd:=lt_nd hltd hp0 k
  have hvd:=lt_nd hltd hp0 i
  have hed:=Nat.mod_lt (f * nd xd i) hp0
  refine wSg 40 [107,108,109,110,111,112,113,114,115,116,117,118,119,120,121,122,123,124,125,126,127,128,129,130,131,132,133,134,135,136,137,138,139,140,141,142,143,144,145,146] [[],[0],[1,0],[2,0,1],[],[3,4,0,1,2],[5,0,1,2,3,4],[],[],[8],[9,8],[10,8,9],[],[12],[13,12],[14,12,13],[],[15,16,12,13,14],[17,12,13,14,15,16],[],[18,19,12,13,14,15,16,17],[20,12,13,14,15,16,17,18,19],[],[22],[23,22],[24,22,23],[],[],[27],[28,27],[29,27,28],[],[30,31,27,28,29],[32,27,28,29,30,31],[],[33,34,27,28,29,30,31,32],[35,27,28,29,30,31,32,33,34],[25,26,36,22,23,24,27,28,29,30,31,32,33,34,35],[11,21,37,8,9,10,12,13,14,15,16,17,18,19,20,22,23,24,25,26,27,28,29,30,31,32,33,34,35,36],[6,7,0,1,2,3,4,5,8,9,10,11,12,13,14,15,16,17,18,19,20,21,22,23,24,25,26,27,28,29,30,31,32,33,34,35,36,37,38]] [] [] [] (fun i9 => ([iSv (.pointer (some ⟨gw,0,none⟩)),iSv (.pointer (some ⟨gw,0,none⟩)),iSv (.pointer (some ⟨gw,1,none⟩)),iSv (.slice pH n cH),iSv (.int .i64 (l:Int)),iSv (.pointer (some ⟨gH,(0 + l * 1),none⟩)),iSv (.slice pc n cc),iSv (.int .i64 (k:Int)),iSv (.pointer (some ⟨gw,0,none⟩)),iSv (.pointer (some ⟨gw,0,none⟩)),iSv (.pointer (some ⟨gw,0,none⟩)),iSv (.agg #[.int .u64 (p:Int)]),iSv (.pointer (some ⟨gw,0,none⟩)),iSv (.pointer (some ⟨gw,0,none⟩)),iSv (.pointer (some ⟨gw,1,none⟩)),iSv (.slice pH n cH),iSv (.int .i64 (l:Int)),iSv (.pointer (some ⟨gH,(0 + l * 1),none⟩)),iSv (.slice pc n cc),iSv (.int .i64 (k:Int)),iSv (.pointer (some ⟨gc,k,none⟩)),iSv (.int .u32 ((nd xc k:Nat):Int)),iSv (.pointer (some ⟨gw,0,none⟩)),iSv (.pointer (some ⟨gw,0,none⟩)),iSv (.pointer (some ⟨gw,0,none⟩)),iSv (.agg #[.int .u64 (p:Int)]),iSv (.int .u32 (f:Int)),iSv (.pointer (some ⟨gw,0,none⟩)),iSv (.pointer (some ⟨gw,0,none⟩)),iSv (.pointer (some ⟨gw,1,none⟩)),iSv (.slice pH n cH),iSv (.int .i64 (l:Int)),iSv (.pointer (some ⟨gH,(0 + l * 1),none⟩)),iSv (.slice pc n cc),iSv (.int .i64 (i:Int)),iSv (.pointer (some ⟨gc,i,none⟩)),iSv (.int .u32 ((nd xc i:Nat):Int)),iSv (.int .u32 (((f * (nd xc i) % p:Nat):Int))),iSv (.int .u32 (((((nd xc k) + (f * (nd xc i) % p)) % p:Nat):Int))),iSv (.pointer (some ⟨gc,k,none⟩))]:List (List Value → Tell)).getD i9 (fun _ _ _ => False)) hNi (fun d _ _ _ _ h => (by cases d <;> exact h)) (by kernel_rfl) (by kernel_rfl) (by kernel_rfl) hS ?_ ?_
  ·
   refine stM rfl rfl rfl rfl rfl (fun _=>isI) ?_
   refine stT rfl (fun hT hS=>?_) ?_
   ·obtain ⟨hv0,hr0⟩:=hT 0 107 rfl rfl
    obtain hS:=(hS.flat1 hr0).front1
    exact inNo rfl (oNC (a:=⟨gw,0,none⟩) rfl rfl (ev rfl hv0) (nSm rfl isI))
   refine stT rfl (fun hT hS=>?_) ?_
   ·obtain ⟨hv1,hr1⟩:=hT 1 108 rfl rfl
    obtain hS:=(hS.flat1 hr1).front1
    exact inNo rfl (oFA (g:=gw) (off:=0) 1 rfl rfl (ev rfl hv1) Tryd.runUnderlying59 rfl Tryd.sizeOf23 rfl (nSm rfl isI))
   refine stT rfl (fun hT hS=>?_) ?_
   ·obtain ⟨hv2,hr2⟩:=hT 2 109 rfl rfl
    obtain hS:=(hS.flat1 hr2).front1
    exact inNo rfl (oL1 (v:=.slice pH n cH) ⟨Tryd.isAgg23,Tryd.sizeOf23⟩ hS 0 rfl rfl (ev rfl hv2) rfl rfl (nSm rfl isI))
   refine stM rfl rfl rfl rfl rfl (fun _=>isI) ?_
   refine stT rfl (fun hT hS=>?_) ?_
   ·obtain ⟨hv3,hr3⟩:=hT 3 110 rfl rfl
    obtain ⟨hv4,hr4⟩:=hT 4 111 rfl rfl
    obtain hS:=(hS.flat2 hr3 hr4).front2
    exact inNo rfl (oIx (p:=pH) (g:=gH) (off:=0) (m:=n) (k:=l) (j:=(0 + l * 1)) rfl rfl Tryd.runUnderlying23 Tryd.sizeOf29 (ev rfl hv3) hgH (ev rfl hv4) (by omega) rfl (nSm rfl isI))
   refine stT rfl (fun hT hS=>?_) ?_
   ·obtain ⟨hv5,hr5⟩:=hT 5 112 rfl rfl
    obtain hS:=(hS.flat1 hr5).front1
    exact inNo rfl (oLc (v:=.slice pc n cc) ⟨Tryd.isAgg29,Tryd.sizeOf29⟩ rfl rfl (ev (v:=.pointer (some ⟨gH,(0 + l * 1),none⟩)) rfl hv5) (hS.mRow 1 rfl hqc hnc hgH) (nSm rfl isI))
   refine stM rfl rfl rfl rfl rfl (fun _=>isI) ?_
   refine stM rfl rfl rfl rfl rfl (fun _=>isI) ?_
   refine stT rfl (fun hT hS=>?_) ?_
   ·obtain ⟨hv8,hr8⟩:=hT 8 115 rfl rfl
    obtain hS:=(hS.flat1 hr8).front1
    exact inNo rfl (oNC (a:=⟨gw,0,none⟩) rfl rfl (ev rfl hv8) (nSm rfl isI))
   refine stT rfl (fun hT hS=>?_) ?_
   ·obtain ⟨hv9,hr9⟩:=hT 9 116 rfl rfl
    obtain hS:=(hS.flat1 hr9).front1
    exact inNo rfl (oFA (g:=gw) (off:=0) 0 rfl rfl (ev rfl hv9) Tryd.runUnderlying59 rfl Tryd.sizeOf57 rfl (nSm rfl isI))
   refine stT rfl (fun hT hS=>?_) ?_
   ·obtain ⟨hv10,hr10⟩:=hT 10 117 rfl rfl
    obtain hS:=(hS.flat1 hr10).front1
    exact inNo rfl (oLd (vs:=[.int .u64 (p:Int)]) ⟨Tryd.isAgg57,Tryd.sizeOf57⟩ hS 0 rfl rfl (ev rfl hv10) rfl rfl rfl (nSm rfl isI))
   refine stM rfl rfl rfl rfl rfl (fun _=>isI) ?_
   refine stT rfl (fun hT hS=>?_) ?_
   ·obtain ⟨hv12,hr12⟩:=hT 12 119 rfl rfl
    obtain hS:=(hS.flat1 hr12).front1
    exact inNo rfl (oNC (a:=⟨gw,0,none⟩) rfl rfl (ev rfl hv12) (nSm rfl isI))
   refine stT rfl (fun hT hS=>?_) ?_
   ·obtain ⟨hv13,hr13⟩:=hT 13 120 rfl rfl
    obtain hS:=(hS.flat1 hr13).front1
    exact inNo rfl (oFA (g:=gw) (off:=0) 1 rfl rfl (ev rfl hv13) Tryd.runUnderlying59 rfl Tryd.sizeOf23 rfl (nSm rfl isI))
   refine stT rfl (fun hT hS=>?_) ?_
   ·obtain ⟨hv14,hr14⟩:=hT 14 121 rfl rfl
    obtain hS:=(hS.flat1 hr14).front1
    exact inNo rfl (oL1 (v:=.slice pH n cH) ⟨Tryd.isAgg23,Tryd.sizeOf23⟩ hS 0 rfl rfl (ev rfl hv14) rfl rfl (nSm rfl isI))
   refine stM rfl rfl rfl rfl rfl (fun _=>isI) ?_
   refine stT rfl (fun hT hS=>?_) ?_
   ·obtain ⟨hv15,hr15⟩:=hT 15 122 rfl rfl
    obtain ⟨hv16,hr16⟩:=hT 16 123 rfl rfl
    obtain hS:=(hS.flat2 hr15 hr16).front2
    exact inNo rfl (oIx (p:=pH) (g:=gH) (off:=0) (m:=n) (k:=l) (j:=(0 + l * 1)) rfl rfl Tryd.runUnderlying23 Tryd.sizeOf29 (ev rfl hv15) hgH (ev rfl hv16) (by omega) rfl (nSm rfl isI))
   refine stT rfl (fun hT hS=>?_) ?_
   ·obtain ⟨hv17,hr17⟩:=hT 17 124 rfl rfl
    obtain hS:=(hS.flat1 hr17).front1
    exact inNo rfl (oLc (v:=.slice pc n cc) ⟨Tryd.isAgg29,Tryd.sizeOf29⟩ rfl rfl (ev (v:=.pointer (some ⟨gH,(0 + l * 1),none⟩)) rfl hv17) (hS.mRow 1 rfl hqc hnc hgH) (nSm rfl isI))
   refine stM rfl rfl rfl rfl rfl (fun _=>isI) ?_
   refine stT rfl (fun hT hS=>?_) ?_
   ·obtain ⟨hv18,hr18⟩:=hT 18 125 rfl rfl
    obtain ⟨hv19,hr19⟩:=hT 19 126 rfl rfl
    obtain hS:=(hS.flat2 hr18 hr19).front2
    exact inNo rfl (oIx (p:=pc) (g:=gc) (off:=0) (m:=n) (k:=k) (j:=k) rfl rfl Tryd.runUnderlying29 Tryd.sizeOf24 (ev rfl hv18) hgc (ev rfl hv19) (by omega) (by simp) (nSm rfl isI))
   refine stT rfl (fun hT hS=>?_) ?_
   ·obtain ⟨hv20,hr20⟩:=hT 20 127 rfl rfl
    obtain hS:=(hS.flat1 hr20).front1
    exact inNo rfl (oLc (v:=.int .u32 ((nd xc k:Nat):Int)) one32 rfl rfl (ev (v:=.pointer (some ⟨gc,k,none⟩)) rfl hv20) (hS.mCell 1 rfl hqc hgc (by omega)) (nSm rfl isI))
   refine stM rfl rfl rfl rfl rfl (fun _=>isI) ?_
   refine stT rfl (fun hT hS=>?_) ?_
   ·obtain ⟨hv22,hr22⟩:=hT 22 129 rfl rfl
    obtain hS:=(hS.flat1 hr22).front1
    exact inNo rfl (oNC (a:=⟨gw,0,none⟩) rfl rfl (ev rfl hv22) (nSm rfl isI))
   refine stT rfl (fun hT hS=>?_) ?_
   ·obtain ⟨hv23,hr23⟩:=hT 23 130 rfl rfl
    obtain hS:=(hS.flat1 hr23).front1
    exact inNo rfl (oFA (g:=gw) (off:=0) 0 rfl rfl (ev rfl hv23) Tryd.runUnderlying59 rfl Tryd.sizeOf57 rfl (nSm rfl isI))
   refine stT rfl (fun hT hS=>?_) ?_
   ·obtain ⟨hv24,hr24⟩:=hT 24 131 rfl rfl
    obtain hS:=(hS.flat1 hr24).front1
    exact inNo rfl (oLd (vs:=[.int .u64 (p:Int)]) ⟨Tryd.isAgg57,Tryd.sizeOf57⟩ hS 0 rfl rfl (ev rfl hv24) rfl rfl rfl (nSm rfl isI))
   refine stM rfl rfl rfl rfl rfl (fun _=>isI) ?_
   refine stM rfl rfl rfl rfl rfl (fun _=>isI) ?_
   refine stT rfl (fun hT hS=>?_) ?_
   ·obtain ⟨hv27,hr27⟩:=hT 27 134 rfl rfl
    obtain hS:=(hS.flat1 hr27).front1
    exact inNo rfl (oNC (a:=⟨gw,0,none⟩) rfl rfl (ev rfl hv27) (nSm rfl isI))
   refine stT rfl (fun hT hS=>?_) ?_
   ·obtain ⟨hv28,hr28⟩:=hT 28 135 rfl rfl
    obtain hS:=(hS.flat1 hr28).front1
    exact inNo rfl (oFA (g:=gw) (off:=0) 1 rfl rfl (ev rfl hv28) Tryd.runUnderlying59 rfl Tryd.sizeOf23 rfl (nSm rfl isI))
   refine stT rfl (fun hT hS=>?_) ?_
   ·obtain ⟨hv29,hr29⟩:=hT 29 136 rfl rfl
    obtain hS:=(hS.flat1 hr29).front1
    exact inNo rfl (oL1 (v:=.slice pH n cH) ⟨Tryd.isAgg23,Tryd.sizeOf23⟩ hS 0 rfl rfl (ev rfl hv29) rfl rfl (nSm rfl isI))
   refine stM rfl rfl rfl rfl rfl (fun _=>isI) ?_
   refine stT rfl (fun hT hS=>?_) ?_
   ·obtain ⟨hv30,hr30⟩:=hT 30 137 rfl rfl
    obtain ⟨hv31,hr31⟩:=hT 31 138 rfl rfl
    obtain hS:=(hS.flat2 hr30 hr31).front2
    exact inNo rfl (oIx (p:=pH) (g:=gH) (off:=0) (m:=n) (k:=l) (j:=(0 + l * 1)) rfl rfl Tryd.runUnderlying23 Tryd.sizeOf29 (ev rfl hv30) hgH (ev rfl hv31) (by omega) rfl (nSm rfl isI))
   refine stT rfl (fun hT hS=>?_) ?_
   ·obtain ⟨hv32,hr32⟩:=hT 32 139 rfl rfl
    obtain hS:=(hS.flat1 hr32).front1
    exact inNo rfl (oLc (v:=.slice pc n cc) ⟨Tryd.isAgg29,Tryd.sizeOf29⟩ rfl rfl (ev (v:=.pointer (some ⟨gH,(0 + l * 1),none⟩)) rfl hv32) (hS.mRow 1 rfl hqc hnc hgH) (nSm rfl isI))
   refine stM rfl rfl rfl rfl rfl (fun _=>isI) ?_
   refine stT rfl (fun hT hS=>?_) ?_
   ·obtain ⟨hv33,hr33⟩:=hT 33 140 rfl rfl
    obtain ⟨hv34,hr34⟩:=hT 34 141 rfl rfl
    obtain hS:=(hS.flat2 hr33 hr34).front2
    exact inNo rfl (oIx (p:=pc) (g:=gc) (off:=0) (m:=n) (k:=i) (j:=i) rfl rfl Tryd.runUnderlying29 Tryd.sizeOf24 (ev rfl hv33) hgc (ev rfl hv34) (by omega) (by simp) (nSm rfl isI))
   refine stT rfl (fun hT hS=>?_) ?_
   ·obtain ⟨hv35,hr35⟩:=hT 35 142 rfl rfl
    obtain hS:=(hS.flat1 hr35).front1
    exact inNo rfl (oLc (v:=.int .u32 ((nd xc i:Nat):Int)) one32 rfl rfl (ev (v:=.pointer (some ⟨gc,i,none⟩)) rfl hv35) (hS.mCell 1 rfl hqc hgc (by omega)) (nSm rfl isI))
   refine stT rfl (fun hT hS=>?_) ?_
   ·obtain ⟨hv25,hr25⟩:=hT 25 132 rfl rfl
    obtain ⟨hv26,hr26⟩:=hT 26 133 rfl rfl
    obtain ⟨hv36,hr36⟩:=hT 36 143 rfl rfl
    obtain hS:=(hS.flat3 hr25 hr26 hr36).front3
    exact .inl ⟨wNo rfl,oCl rfl rfl Tryd.call27 rfl (whmul (a:=f) (b:=(nd xc i)) hp0 hp2 (by omega) (by omega)) (args3 (ev rfl hv25) (ev rfl hv26) (ev rfl hv36)) cNw⟩
   refine stT rfl (fun hT hS=>?_) ?_
   ·obtain ⟨hv11,hr11⟩:=hT 11 118 rfl rfl
    obtain ⟨hv21,hr21⟩:=hT 21 128 rfl rfl
    obtain ⟨hv37,hr37⟩:=hT 37 144 rfl rfl
    obtain hS:=(hS.flat3 hr11 hr21 hr37).front3
    exact .inl ⟨wNo rfl,oCl rfl rfl Tryd.call69 rfl (whadd (a:=(nd xc k)) (b:=(f * (nd xc i) % p)) hp0 hp2 (by omega) (by omega)) (args3 (ev rfl hv11) (ev rfl hv21) (ev rfl hv37)) cNw⟩
   refine stT rfl (fun hT hS=>?_) ?_
   ·obtain ⟨hv6,hr6⟩:=hT 6 113 rfl rfl
    obtain ⟨hv7,hr7⟩:=hT 7 114 rfl rfl
    obtain hS:=(hS.flat2 hr6 hr7).front2
    exact inNo rfl (oIx (p:=pc) (g:=gc) (off:=0) (m:=n) (k:=k) (j:=k) rfl rfl Tryd.runUnderlying29 Tryd.sizeOf24 (ev rfl hv6) hgc (ev rfl hv7) (by omega) (by simp) (nSm rfl isI))
   exact sNi
  intro vs ρ w3 f' hf hT hS
  obtain ⟨hv0,hr0⟩:=hT 0 (by decide)
  obtain ⟨hv1,hr1⟩:=hT 1 (by decide)
  obtain ⟨hv2,hr2⟩:=hT 2 (by decide)
  obtain ⟨hv3,hr3⟩:=hT 3 (by decide)
  obtain ⟨hv4,hr4⟩:=hT 4 (by decide)
  obtain ⟨hv5,hr5⟩:=hT 5 (by decide)
  obtain ⟨hv6,hr6⟩:=hT 6 (by decide)
  obtain ⟨hv7,hr7⟩:=hT 7 (by decide)
  obtain ⟨hv8,hr8⟩:=hT 8 (by decide)
  obtain ⟨hv9,hr9⟩:=hT 9 (by decide)
  obtain ⟨hv10,hr10⟩:=hT 10 (by decide)
  obtain ⟨hv11,hr11⟩:=hT 11 (by decide)
  obtain ⟨hv12,hr12⟩:=hT 12 (by decide)
  obtain ⟨hv13,hr13⟩:=hT 13 (by decide)
  obtain ⟨hv14,hr14⟩:=hT 14 (by decide)
  obtain ⟨hv15,hr15⟩:=hT 15 (by decide)
  obtain ⟨hv16,hr16⟩:=hT 16 (by decide)
  obtain ⟨hv17,hr17⟩:=hT 17 (by decide)
  obtain ⟨hv18,hr18⟩:=hT 18 (by decide)
  obtain ⟨hv19,hr19⟩:=hT 19 (by decide)
  obtain ⟨hv20,hr20⟩:=hT 20 (by decide)
  obtain ⟨hv21,hr21⟩:=hT 21 (by decide)
  obtain ⟨hv22,hr22⟩:=hT 22 (by decide)
  obtain ⟨hv23,hr23⟩:=hT 23 (by decide)
  obtain ⟨hv24,hr24⟩:=hT 24 (by decide)
  obtain ⟨hv25,hr25⟩:=hT 25 (by decide)
  obtain ⟨hv26,hr26⟩:=hT 26 (by decide)
  obtain ⟨hv27,hr27⟩:=hT 27 (by decide)
  obtain ⟨hv28,hr28⟩:=hT 28 (by decide)
  obtain ⟨hv29,hr29⟩:=hT 29 (by decide)
  obtain ⟨hv30,hr30⟩:=hT 30 (by decide)
  obtain ⟨hv31,hr31⟩:=hT 31 (by decide)
  obtain ⟨hv32,hr32⟩:=hT 32 (by decide)
  obtain ⟨hv33,hr33⟩:=hT 33 (by decide)
  obtain ⟨hv34,hr34⟩:=hT 34 (by decide)
  obtain ⟨hv35,hr35⟩:=hT 35 (by decide)
  obtain ⟨hv36,hr36⟩:=hT 36 (by decide)
  obtain ⟨hv37,hr37⟩:=hT 37 (by decide)
  obtain ⟨hv38,hr38⟩:=hT 38 (by decide)
  obtain ⟨hv39,hr39⟩:=hT 39 (by decide)
  simp only [pool,if_true,hr0,hr1,hr2,hr3,hr4,hr5,hr6,hr7,hr8,hr9,hr10,hr11,hr12,hr13,hr14,hr15,hr16,hr17,hr18,hr19,hr20,hr21,hr22,hr23,hr24,hr25,hr26,hr27,hr28,hr29,hr30,hr31,hr32,hr33,hr34,hr35,hr36,hr37,hr38,hr39,List.nil_append,List.cons_append,List.append_nil] at hS
  simp only [layf,hv0,hv1,hv2,hv3,hv4,hv5,hv6,hv7,hv8,hv9,hv10,hv11,hv12,hv13,hv14,hv15,hv16,hv17,hv18,hv19,hv20,hv21,hv22,hv23,hv24,hv25,hv26,hv27,hv28,hv29,hv30,hv31,hv32,hv33,hv34,hv35,hv36,hv37,hv38,hv39] at hf
  subst hf; clear hT hv0 hv1 hv2 hv3 hv4 hv5 hv6 hv7 hv8 hv9 hv10 hv11 hv12 hv13 hv14 hv15 hv16 hv17 hv18 hv19 hv20 hv21 hv22 hv23 hv24 hv25 hv26 hv27 hv28 hv29 hv30 hv31 hv32 hv33 hv34 hv35 hv36 hv37 hv38 hv39 hr0 hr1 hr2 hr3 hr4 hr5 hr6 hr7 hr8 hr9 hr10 hr11 hr12 hr13 hr14 hr15 hr16 hr17 hr18 hr19 hr20 hr21 hr22 hr23 hr24 hr25 hr26 hr27 hr28 hr29 hr30 hr31 hr32 hr33 hr34 hr35 hr36 hr37 hr38 hr39
  obtain hS:=(show Sep w0 (.lst 29 1 pH n cH (mmE GH) :: .blk gw [.int .u64 (((p:Nat):Int)),.slice pH n cH,.slice pS n cS,.slice pR n cR] 59 :: .lst 29 1 pS n cS (mmE GS) :: .lst 29 1 pR n cR (mmE (QR.set i ⟨pu,cu,lessR p f xu xv⟩)) :: R) w3 from Sep.pickT [.blk gw [.int .u64 (((p:Nat):Int)),.slice pH n cH,.slice pS n cS,.slice pR n cR] 59,.lst 29 1 pH n cH (mmE GH),.lst 29 1 pS n cS (mmE GS),.lst 29 1 pR n cR (mmE (QR.set i ⟨pu,cu,lessR p f xu xv⟩))] [.lst 29 1 pH n cH (mmE GH),.blk gw [.int .u64 (((p:Nat):Int)),.slice pH n cH,.slice pS n cS,.slice pR n cR] 59,.lst 29 1 pS n cS (mmE GS),.lst 29 1 pR n cR (mmE (QR.set i ⟨pu,cu,lessR p f xu xv⟩))] hS [1,0,2,3] (by decide) rfl)
  refine wLt 40 rfl (by kernel_rfl) (ostoreM (i:=l) (g:=gc) (k:=k) (u:=(((nd xc k) + (f * (nd xc i) % p)) % p)) Tryd.sizeOf24 hS rfl rfl (ev (v:=.pointer (some ⟨gc,k,none⟩)) rfl rfl) (ev (v:=.int .u32 (((((nd xc k) + (f * (nd xc i) % p)) % p:Nat):Int))) rfl rfl) hqc hgc (show k < List.length xc by omega) (by have:=Nat.mod_lt (nd xc k + f * nd xc i % p) hp0; omega) ?_)
  clear hS; intro w4 hS
  refine ⟨hNi,?_⟩
  refine wdone rfl ?_
  refine tNo ?_
  refine wSg 40 [147,148,149,150,151,152,153,154,155,156,157,158,159,160,161,162,163,164,165,166,167,168,169,170,171,172,173,174,175,176,177,178,179,180,181,182,183,184,185,186] [[],[0],[1,0],[2,0,1],[],[3,4,0,1,2],[5,0,1,2,3,4],[],[],[8],[9,8],[10,8,9],[],[12],[13,12],[14,12,13],[],[15,16,12,13,14],[17,12,13,14,15,16],[],[18,19,12,13,14,15,16,17],[20,12,13,14,15,16,17,18,19],[],[22],[23,22],[24,22,23],[],[],[27],[28,27],[29,27,28],[],[30,31,27,28,29],[32,27,28,29,30,31],[],[33,34,27,28,29,30,31,32],[35,27,28,29,30,31,32,33,34],[25,26,36,22,23,24,27,28,29,30,31,32,33,34,35],[11,21,37,8,9,10,12,13,14,15,16,17,18,19,20,22,23,24,25,26,27,28,29,30,31,32,33,34,35,36],[6,7,0,1,2,3,4,5,8,9,10,11,12,13,14,15,16,17,18,19,20,21,22,23,24,25,26,27,28,29,30,31,32,33,34,35,36,37,38]] [] [] [] (fun i9 => ([iSv (.pointer (some ⟨gw,0,none⟩)),iSv (.pointer (some ⟨gw,0,none⟩)),iSv (.pointer (some ⟨gw,2,none⟩)),iSv (.slice pS n cS),iSv (.int .i64 (l:Int)),iSv (.pointer (some ⟨gS,(0 + l * 1),none⟩)),iSv (.slice pd n cd),iSv (.int .i64 (k:Int)),iSv (.pointer (some ⟨gw,0,none⟩)),iSv (.pointer (some ⟨gw,0,none⟩)),iSv (.pointer (some ⟨gw,0,none⟩)),iSv (.agg #[.int .u64 (p:Int)]),iSv (.pointer (some ⟨gw,0,none⟩)),iSv (.pointer (some ⟨gw,0,none⟩)),iSv (.pointer (some ⟨gw,2,none⟩)),iSv (.slice pS n cS),iSv (.int .i64 (l:Int)),iSv (.pointer (some ⟨gS,(0 + l * 1),none⟩)),iSv (.slice pd n cd),iSv (.int .i64 (k:Int)),iSv (.pointer (some ⟨gd,k,none⟩)),iSv (.int .u32 ((nd xd k:Nat):Int)),iSv (.pointer (some ⟨gw,0,none⟩)),iSv (.pointer (some ⟨gw,0,none⟩)),iSv (.pointer (some ⟨gw,0,none⟩)),iSv (.agg #[.int .u64 (p:Int)]),iSv (.int .u32 (f:Int)),iSv (.pointer (some ⟨gw,0,none⟩)),iSv (.pointer (some ⟨gw,0,none⟩)),iSv (.pointer (some ⟨gw,2,none⟩)),iSv (.slice pS n cS),iSv (.int .i64 (l:Int)),iSv (.pointer (some ⟨gS,(0 + l * 1),none⟩)),iSv (.slice pd n cd),iSv (.int .i64 (i:Int)),iSv (.pointer (some ⟨gd,i,none⟩)),iSv (.int .u32 ((nd xd i:Nat):Int)),iSv (.int .u32 (((f * (nd xd i) % p:Nat):Int))),iSv (.int .u32 (((((nd xd k) + (f * (nd xd i) % p)) % p:Nat):Int))),iSv (.pointer (some ⟨gd,k,none⟩))]:List (List Value → Tell)).getD i9 (fun _ _ _ => False)) hNi (fun d _ _ _ _ h => (by cases d <;> exact h)) (by kernel_rfl) (by kernel_rfl) (by kernel_rfl) hS ?_ ?_
  ·
   refine stM rfl rfl rfl rfl rfl (fun _=>isI) ?_
   refine stT rfl (fun hT hS=>?_) ?_
   ·obtain ⟨hv0,hr0⟩:=hT 0 147 rfl rfl
    obtain hS:=(hS.flat1 hr0).front1
    exact inNo rfl (oNC (a:=⟨gw,0,none⟩) rfl rfl (ev rfl hv0) (nSm rfl isI))
   refine stT rfl (fun hT hS=>?_) ?_
   ·obtain ⟨hv1,hr1⟩:=hT 1 148 rfl rfl
    obtain hS:=(hS.flat1 hr1).front1
    exact inNo rfl (oFA (g:=gw) (off:=0) 2 rfl rfl (ev rfl hv1) Tryd.runUnderlying59 rfl Tryd.sizeOf23 rfl (nSm rfl isI))
   refine stT rfl (fun hT hS=>?_) ?_
   ·obtain ⟨hv2,hr2⟩:=hT 2 149 rfl rfl
    obtain hS:=(hS.flat1 hr2).front1
    exact inNo rfl (oL1 (v:=.slice pS n cS) ⟨Tryd.isAgg23,Tryd.sizeOf23⟩ hS 1 rfl rfl (ev rfl hv2) rfl rfl (nSm rfl isI))
   refine stM rfl rfl rfl rfl rfl (fun _=>isI) ?_
   refine stT rfl (fun hT hS=>?_) ?_
   ·obtain ⟨hv3,hr3⟩:=hT 3 150 rfl rfl
    obtain ⟨hv4,hr4⟩:=hT 4 151 rfl rfl
    obtain hS:=(hS.flat2 hr3 hr4).front2
    exact inNo rfl (oIx (p:=pS) (g:=gS) (off:=0) (m:=n) (k:=l) (j:=(0 + l * 1)) rfl rfl Tryd.runUnderlying23 Tryd.sizeOf29 (ev rfl hv3) hgS (ev rfl hv4) (by omega) rfl (nSm rfl isI))
   refine stT rfl (fun hT hS=>?_) ?_
   ·obtain ⟨hv5,hr5⟩:=hT 5 152 rfl rfl
    obtain hS:=(hS.flat1 hr5).front1
    exact inNo rfl (oLc (v:=.slice pd n cd) ⟨Tryd.isAgg29,Tryd.sizeOf29⟩ rfl rfl (ev (v:=.pointer (some ⟨gS,(0 + l * 1),none⟩)) rfl hv5) (hS.mRow 2 rfl hqd hnd hgS) (nSm rfl isI))
   refine stM rfl rfl rfl rfl rfl (fun _=>isI) ?_
   refine stM rfl rfl rfl rfl rfl (fun _=>isI) ?_
   refine stT rfl (fun hT hS=>?_) ?_
   ·obtain ⟨hv8,hr8⟩:=hT 8 155 rfl rfl
    obtain hS:=(hS.flat1 hr8).front1
    exact inNo rfl (oNC (a:=⟨gw,0,none⟩) rfl rfl (ev rfl hv8) (nSm rfl isI))
   refine stT rfl (fun hT hS=>?_) ?_
   ·obtain ⟨hv9,hr9⟩:=hT 9 156 rfl rfl
    obtain hS:=(hS.flat1 hr9).front1
    exact inNo rfl (oFA (g:=gw) (off:=0) 0 rfl rfl (ev rfl hv9) Tryd.runUnderlying59 rfl Tryd.sizeOf57 rfl (nSm rfl isI))
   refine stT rfl (fun hT hS=>?_) ?_
   ·obtain ⟨hv10,hr10⟩:=hT 10 157 rfl rfl
    obtain hS:=(hS.flat1 hr10).front1
    exact inNo rfl (oLd (vs:=[.int .u64 (p:Int)]) ⟨Tryd.isAgg57,Tryd.sizeOf57⟩ hS 1 rfl rfl (ev rfl hv10) rfl rfl rfl (nSm rfl isI))
   refine stM rfl rfl rfl rfl rfl (fun _=>isI) ?_
   refine stT rfl (fun hT hS=>?_) ?_
   ·obtain ⟨hv12,hr12⟩:=hT 12 159 rfl rfl
    obtain hS:=(hS.flat1 hr12).front1
    exact inNo rfl (oNC (a:=⟨gw,0,none⟩) rfl rfl (ev rfl hv12) (nSm rfl isI))
   refine stT rfl (fun hT hS=>?_) ?_
   ·obtain ⟨hv13,hr13⟩:=hT 13 160 rfl rfl
    obtain hS:=(hS.flat1 hr13).front1
    exact inNo rfl (oFA (g:=gw) (off:=0) 2 rfl rfl (ev rfl hv13) Tryd.runUnderlying59 rfl Tryd.sizeOf23 rfl (nSm rfl isI))
   refine stT rfl (fun hT hS=>?_) ?_
   ·obtain ⟨hv14,hr14⟩:=hT 14 161 rfl rfl
    obtain hS:=(hS.flat1 hr14).front1
    exact inNo rfl (oL1 (v:=.slice pS n cS) ⟨Tryd.isAgg23,Tryd.sizeOf23⟩ hS 1 rfl rfl (ev rfl hv14) rfl rfl (nSm rfl isI))
   refine stM rfl rfl rfl rfl rfl (fun _=>isI) ?_
   refine stT rfl (fun hT hS=>?_) ?_
   ·obtain ⟨hv15,hr15⟩:=hT 15 162 rfl rfl
    obtain ⟨hv16,hr16⟩:=hT 16 163 rfl rfl
    obtain hS:=(hS.flat2 hr15 hr16).front2
    exact inNo rfl (oIx (p:=pS) (g:=gS) (off:=0) (m:=n) (k:=l) (j:=(0 + l * 1)) rfl rfl Tryd.runUnderlying23 Tryd.sizeOf29 (ev rfl hv15) hgS (ev rfl hv16) (by omega) rfl (nSm rfl isI))
   refine stT rfl (fun hT hS=>?_) ?_
   ·obtain ⟨hv17,hr17⟩:=hT 17 164 rfl rfl
    obtain hS:=(hS.flat1 hr17).front1
    exact inNo rfl (oLc (v:=.slice pd n cd) ⟨Tryd.isAgg29,Tryd.sizeOf29⟩ rfl rfl (ev (v:=.pointer (some ⟨gS,(0 + l * 1),none⟩)) rfl hv17) (hS.mRow 2 rfl hqd hnd hgS) (nSm rfl isI))
   refine stM rfl rfl rfl rfl rfl (fun _=>isI) ?_
   refine stT rfl (fun hT hS=>?_) ?_
   ·obtain ⟨hv18,hr18⟩:=hT 18 165 rfl rfl
    obtain ⟨hv19,hr19⟩:=hT 19 166 rfl rfl
    obtain hS:=(hS.flat2 hr18 hr19).front2
    exact inNo rfl (oIx (p:=pd) (g:=gd) (off:=0) (m:=n) (k:=k) (j:=k) rfl rfl Tryd.runUnderlying29 Tryd.sizeOf24 (ev rfl hv18) hgd (ev rfl hv19) (by omega) (by simp) (nSm rfl isI))
   refine stT rfl (fun hT hS=>?_) ?_
   ·obtain ⟨hv20,hr20⟩:=hT 20 167 rfl rfl
    obtain hS:=(hS.flat1 hr20).front1
    exact inNo rfl (oLc (v:=.int .u32 ((nd xd k:Nat):Int)) one32 rfl rfl (ev (v:=.pointer (some ⟨gd,k,none⟩)) rfl hv20) (hS.mCell 2 rfl hqd hgd (by omega)) (nSm rfl isI))
   refine stM rfl rfl rfl rfl rfl (fun _=>isI) ?_
   refine stT rfl (fun hT hS=>?_) ?_
   ·obtain ⟨hv22,hr22⟩:=hT 22 169 rfl rfl
    obtain hS:=(hS.flat1 hr22).front1
    exact inNo rfl (oNC (a:=⟨gw,0,none⟩) rfl rfl (ev rfl hv22) (nSm rfl isI))
   refine stT rfl (fun hT hS=>?_) ?_
   ·obtain ⟨hv23,hr23⟩:=hT 23 170 rfl rfl
    obtain hS:=(hS.flat1 hr23).front1
    exact inNo rfl (oFA (g:=gw) (off:=0) 0 rfl rfl (ev rfl hv23) Tryd.runUnderlying59 rfl Tryd.sizeOf57 rfl (nSm rfl isI))
   refine stT rfl (fun hT hS=>?_) ?_
   ·obtain ⟨hv24,hr24⟩:=hT 24 171 rfl rfl
    obtain hS:=(hS.flat1 hr24).front1
    exact inNo rfl (oLd (vs:=[.int .u64 (p:Int)]) ⟨Tryd.isAgg57,Tryd.sizeOf57⟩ hS 1 rfl rfl (ev rfl hv24) rfl rfl rfl (nSm rfl isI))
   refine stM rfl rfl rfl rfl rfl (fun _=>isI) ?_
   refine stM rfl rfl rfl rfl rfl (fun _=>isI) ?_
   refine stT rfl (fun hT hS=>?_) ?_
   ·obtain ⟨hv27,hr27⟩:=hT 27 174 rfl rfl
    obtain hS:=(hS.flat1 hr27).front1
    exact inNo rfl (oNC (a:=⟨gw,0,none⟩) rfl rfl (ev rfl hv27) (nSm rfl isI))
   refine stT rfl (fun hT hS=>?_) ?_
   ·obtain ⟨hv28,hr28⟩:=hT 28 175 rfl rfl
    obtain hS:=(hS.flat1 hr28).front1
    exact inNo rfl (oFA (g:=gw) (off:=0) 2 rfl rfl (ev rfl hv28) Tryd.runUnderlying59 rfl Tryd.sizeOf23 rfl (nSm rfl isI))
   refine stT rfl (fun hT hS=>?_) ?_
   ·obtain ⟨hv29,hr29⟩:=hT 29 176 rfl rfl
    obtain hS:=(hS.flat1 hr29).front1
    exact inNo rfl (oL1 (v:=.slice pS n cS) ⟨Tryd.isAgg23,Tryd.sizeOf23⟩ hS 1 rfl rfl (ev rfl hv29) rfl rfl (nSm rfl isI))
   refine stM rfl rfl rfl rfl rfl (fun _=>isI) ?_
   refine stT rfl (fun hT hS=>?_) ?_
   ·obtain ⟨hv30,hr30⟩:=hT 30 177 rfl rfl
    obtain ⟨hv31,hr31⟩:=hT 31 178 rfl rfl
    obtain hS:=(hS.flat2 hr30 hr31).front2
    exact inNo rfl (oIx (p:=pS) (g:=gS) (off:=0) (m:=n) (k:=l) (j:=(0 + l * 1)) rfl rfl Tryd.runUnderlying23 Tryd.sizeOf29 (ev rfl hv30) hgS (ev rfl hv31) (by omega) rfl (nSm rfl isI))
   refine stT rfl (fun hT hS=>?_) ?_
   ·obtain ⟨hv32,hr32⟩:=hT 32 179 rfl rfl
    obtain hS:=(hS.flat1 hr32).front1
    exact inNo rfl (oLc (v:=.slice pd n cd) ⟨Tryd.isAgg29,Tryd.sizeOf29⟩ rfl rfl (ev (v:=.pointer (some ⟨gS,(0 + l * 1),none⟩)) rfl hv32) (hS.mRow 2 rfl hqd hnd hgS) (nSm rfl isI))
   refine stM rfl rfl rfl rfl rfl (fun _=>isI) ?_
   refine stT rfl (fun hT hS=>?_) ?_
   ·obtain ⟨hv33,hr33⟩:=hT 33 180 rfl rfl
    obtain ⟨hv34,hr34⟩:=hT 34 181 rfl rfl
    obtain hS:=(hS.flat2 hr33 hr34).front2
    exact inNo rfl (oIx (p:=pd) (g:=gd) (off:=0) (m:=n) (k:=i) (j:=i) rfl rfl Tryd.runUnderlying29 Tryd.sizeOf24 (ev rfl hv33) hgd (ev rfl hv34) (by omega) (by simp) (nSm rfl isI))
   refine stT rfl (fun hT hS=>?_) ?_
   ·obtain ⟨hv35,hr35⟩:=hT 35 182 rfl rfl
    obtain hS:=(hS.flat1 hr35).front1
    exact inNo rfl (oLc (v:=.int .u32 ((nd xd i:Nat):Int)) one32 rfl rfl (ev (v:=.pointer (some ⟨gd,i,none⟩)) rfl hv35) (hS.mCell 2 rfl hqd hgd (by omega)) (nSm rfl isI))
   refine stT rfl (fun hT hS=>?_) ?_
   ·obtain ⟨hv25,hr25⟩:=hT 25 172 rfl rfl
    obtain ⟨hv26,hr26⟩:=hT 26 173 rfl rfl
    obtain ⟨hv36,hr36⟩:=hT 36 183 rfl rfl
    obtain hS:=(hS.flat3 hr25 hr26 hr36).front3
    exact .inl ⟨wNo rfl,oCl rfl rfl Tryd.call27 rfl (whmul (a:=f) (b:=(nd xd i)) hp0 hp2 (by omega) (by omega)) (args3 (ev rfl hv25) (ev rfl hv26) (ev rfl hv36)) cNw⟩
   refine stT rfl (fun hT hS=>?_) ?_
   ·obtain ⟨hv11,hr11⟩:=hT 11 158 rfl rfl
    obtain ⟨hv21,hr21⟩:=hT 21 168 rfl rfl
    obtain ⟨hv37,hr37⟩:=hT 37 184 rfl rfl
    obtain hS:=(hS.flat3 hr11 hr21 hr37).front3
    exact .inl ⟨wNo rfl,oCl rfl rfl Tryd.call69 rfl (whadd (a:=(nd xd k)) (b:=(f * (nd xd i) % p)) hp0 hp2 (by omega) (by omega)) (args3 (ev rfl hv11) (ev rfl hv21) (ev rfl hv37)) cNw⟩
   refine stT rfl (fun hT hS=>?_) ?_
   ·obtain ⟨hv6,hr6⟩:=hT 6 153 rfl rfl
    obtain ⟨hv7,hr7⟩:=hT 7 154 rfl rfl
    obtain hS:=(hS.flat2 hr6 hr7).front2
    exact inNo rfl (oIx (p:=pd) (g:=gd) (off:=0) (m:=n) (k:=k) (j:=k) rfl rfl Tryd.runUnderlying29 Tryd.sizeOf24 (ev rfl hv6) hgd (ev rfl hv7) (by omega) (by simp) (nSm rfl isI))
   exact sNi
  intro vs ρ w5 f' hf hT hS
  obtain ⟨hv0,hr0⟩:=hT 0 (by decide)
  obtain ⟨hv1,hr1⟩:=hT 1 (by decide)
  obtain ⟨hv2,hr2⟩:=hT 2 (by decide)
  obtain ⟨hv3,hr3⟩:=hT 3 (by decide)
  obtain ⟨hv4,hr4⟩:=hT 4 (by decide)
  obtain ⟨hv5,hr5⟩:=hT 5 (by decide)
  obtain ⟨hv6,hr6⟩:=hT 6 (by decide)
  obtain ⟨hv7,hr7⟩:=hT 7 (by decide)
  obtain ⟨hv8,hr8⟩:=hT 8 (by decide)
  obtain ⟨hv9,hr9⟩:=hT 9 (by decide)
  obtain ⟨hv10,hr10⟩:=hT 10 (by decide)
  obtain ⟨hv11,hr11⟩:=hT 11 (by decide)
  obtain ⟨hv12,hr12⟩:=hT 12 (by decide)
  obtain ⟨hv13,hr13⟩:=hT 13 (by decide)
  obtain ⟨hv14,hr14⟩:=hT 14 (by decide)
  obtain ⟨hv15,hr15⟩:=hT 15 (by decide)
  obtain ⟨hv16,hr16⟩:=hT 16 (by decide)
  obtain ⟨hv17,hr17⟩:=hT 17 (by decide)
  obtain ⟨hv18,hr18⟩:=hT 18 (by decide)
  obtain ⟨hv19,hr19⟩:=hT 19 (by decide)
  obtain ⟨hv20,hr20⟩:=hT 20 (by decide)
  obtain ⟨hv21,hr21⟩:=hT 21 (by decide)
  obtain ⟨hv22,hr22⟩:=hT 22 (by decide)
  obtain ⟨hv23,hr23⟩:=hT 23 (by decide)
  obtain ⟨hv24,hr24⟩:=hT 24 (by decide)
  obtain ⟨hv25,hr25⟩:=hT 25 (by decide)
  obtain ⟨hv26,hr26⟩:=hT 26 (by decide)
  obtain ⟨hv27,hr27⟩:=hT 27 (by decide)
  obtain ⟨hv28,hr28⟩:=hT 28 (by decide)
  obtain ⟨hv29,hr29⟩:=hT 29 (by decide)
  obtain ⟨hv30,hr30⟩:=hT 30 (by decide)
  obtain ⟨hv31,hr31⟩:=hT 31 (by decide)
  obtain ⟨hv32,hr32⟩:=hT 32 (by decide)
  obtain ⟨hv33,hr33⟩:=hT 33 (by decide)
  obtain ⟨hv34,hr34⟩:=hT 34 (by decide)
  obtain ⟨hv35,hr35⟩:=hT 35 (by decide)
  obtain ⟨hv36,hr36⟩:=hT 36 (by decide)
  obtain ⟨hv37,hr37⟩:=hT 37 (by decide)
  obtain ⟨hv38,hr38⟩:=hT 38 (by decide)
  obtain ⟨hv39,hr39⟩:=hT 39 (by decide)
  simp only [pool,if_true,hr0,hr1,hr2,hr3,hr4,hr5,hr6,hr7,hr8,hr9,hr10,hr11,hr12,hr13,hr14,hr15,hr16,hr17,hr18,hr19,hr20,hr21,hr22,hr23,hr24,hr25,hr26,hr27,hr28,hr29,hr30,hr31,hr32,hr33,hr34,hr35,hr36,hr37,hr38,hr39,List.nil_append,List.cons_append,List.append_nil] at hS
  simp only [layf,hv0,hv1,hv2,hv3,hv4,hv5,hv6,hv7,hv8,hv9,hv10,hv11,hv12,hv13,hv14,hv15,hv16,hv17,hv18,hv19,hv20,hv21,hv22,hv23,hv24,hv25,hv26,hv27,hv28,hv29,hv30,hv31,hv32,hv33,hv34,hv35,hv36,hv37,hv38,hv39] at hf
  subst hf; clear hT hv0 hv1 hv2 hv3 hv4 hv5 hv6 hv7 hv8 hv9 hv10 hv11 hv12 hv13 hv14 hv15 hv16 hv17 hv18 hv19 hv20 hv21 hv22 hv23 hv24 hv25 hv26 hv27 hv28 hv29 hv30 hv31 hv32 hv33 hv34 hv35 hv36 hv37 hv38 hv39 hr0 hr1 hr2 hr3 hr4 hr5 hr6 hr7 hr8 hr9 hr10 hr11 hr12 hr13 hr14 hr15 hr16 hr17 hr18 hr19 hr20 hr21 hr22 hr23 hr24 hr25 hr26 hr27 hr28 hr29 hr30 hr31 hr32 hr33 hr34 hr35 hr36 hr37 hr38 hr39
  obtain hS:=(show Sep w0 (.lst 29 1 pS n cS (mmE GS) :: .lst 29 1 pH n cH (mmE (GH.set l ⟨pc,cc,xc.set k (((nd xc k) + (f * (nd xc i) % p)) % p)⟩)) :: .blk gw [.int .u64 (((p:Nat):Int)),.slice pH n cH,.slice pS n cS,.slice pR n cR] 59 :: .lst 29 1 pR n cR (mmE (QR.set i ⟨pu,cu,lessR p f xu xv⟩)) :: R) w5 from Sep.pickT [.lst 29 1 pH n cH (mmE (GH.set l ⟨pc,cc,xc.set k (((nd xc k) + (f * (nd xc i) % p)) % p)⟩)),.blk gw [.int .u64 (((p:Nat):Int)),.slice pH n cH,.slice pS n cS,.slice pR n cR] 59,.lst 29 1 pS n cS (mmE GS),.lst 29 1 pR n cR (mmE (QR.set i ⟨pu,cu,lessR p f xu xv⟩))] [.lst 29 1 pS n cS (mmE GS),.lst 29 1 pH n cH (mmE (GH.set l ⟨pc,cc,xc.set k (((nd xc k) + (f * (nd xc i) % p)) % p)⟩)),.blk gw [.int .u64 (((p:Nat):Int)),.slice pH n cH,.slice pS n cS,.slice pR n cR] 59,.lst 29 1 pR n cR (mmE (QR.set i ⟨pu,cu,lessR p f xu xv⟩))] hS [2,0,1,3] (by decide) rfl)
  refine wLt 40 rfl (by kernel_rfl) (ostoreM (i:=l) (g:=gd) (k:=k) (u:=(((nd xd k) + (f * (nd xd i) % p)) % p)) Tryd.sizeOf24 hS rfl rfl (ev (v:=.pointer (some ⟨gd,k,none⟩)) rfl rfl) (ev (v:=.int .u32 (((((nd xd k) + (f * (nd xd i) % p)) % p:Nat):Int))) rfl rfl) hqd hgd (show k < List.length xd by omega) (by have:=Nat.mod_lt (nd xd k + f * nd xd i % p) hp0; omega) ?_)
  clear hS; intro w6 hS
  refine ⟨hNi,?_⟩
  refine wdone rfl ?_
  refine blkN (tNo (wreg (wbc (u:=.int .i64 (l:Int)) (v:=.int .i64 1) (z:=.int .i64 ((l + 1:Nat):Int)) rfl rfl (bAd (wI6 (by omega) (by omega))) ?_)))
  refine wmv (v:=.int .i64 ((l + 1:Nat):Int)) rfl rfl ?_
  refine wn1 ?_
  exact ⟨(l + 1),⟨_,_,_,aSs ⟨rfl,rfl,rfl,rfl,rfl,rfl,trivial⟩,Sep.pickT [.lst 29 1 pS n cS (mmE (GS.set l ⟨pd,cd,(xd.set k ((nd xd k + f * nd xd i % p) % p))⟩)),.lst 29 1 pH n cH (mmE (GH.set l ⟨pc,cc,(xc.set k ((nd xc k + f * nd xc i % p) % p))⟩)),.blk gw [.int .u64 (p:Int),.slice pH n cH,.slice pS n cS,.slice pR n cR] 59,.lst 29 1 pR n cR (mmE (QR.set i ⟨pu,cu,lessR p f xu xv⟩))] [.blk gw [.int .u64 (p:Int),.slice pH n cH,.slice pS n cS,.slice pR n cR] 59,.lst 29 1 pH n cH (mmE (GH.set l ⟨pc,cc,(xc.set k ((nd xc k + f * nd xc i % p) % p))⟩)),.lst 29 1 pS n cS (mmE (GS.set l ⟨pd,cd,(xd.set k ((nd xd k + f * nd xd i % p) % p))⟩)),.lst 29 1 pR n cR (mmE (QR.set i ⟨pu,cu,lessR p f xu xv⟩))] hS [2,1,0,3] (by decide) rfl,by omega,by rw [nums_set,mapTo, ← hG,hdc]; rfl,by rw [nums_set,mapTo, ← hF,hdd]; rfl⟩,by omega⟩
 refine wbt (u:=.int .i64 (l:Int)) (v:=.int .i64 (n:Int)) rfl rfl rfl rfl (bLs (decide_eq_false (by omega))) ?_
 refine wn1 (wSq ?_)
 refine wF (ev rfl rfl) ?_
 refine wEx ?_
 refine tEx ?_
 refine tEx ?_
 refine blkE ?_
 have hln9:l = n:=by omega
 refine wret0n Tryd.results37 ?_
 exact ⟨_,_,rfl,⟨_,_,_,by rw [hG,mapTo_all (by rw [hln9,subM_len,hok.hl])]; rfl,by rw [hF,mapTo_all (by rw [hln9,hok.sl])]; rfl,by rw [nums_set]; show _ = subM p f i k s.R; unfold subM; rw [← hQR,hdu,hdv],rfl,rfl⟩,Sep.pickT [.blk gw [.int .u64 (p:Int),.slice pH n cH,.slice pS n cS,.slice pR n cR] 59,.lst 29 1 pH n cH (mmE GH),.lst 29 1 pS n cS (mmE GS),.lst 29 1 pR n cR (mmE (QR.set i ⟨pu,cu,lessR p f xu xv⟩))] [.blk gw [.int .u64 (p:Int),.slice pH n cH,.slice pS n cS,.slice pR n cR] 59,.lst 29 1 pH n cH (mmE GH),.lst 29 1 pS n cS (mmE GS),.lst 29 1 pR n cR (mmE (QR.set i ⟨pu,cu,lessR p f xu xv⟩))] hS [0,1,2,3] (by decide) rfl⟩
theorem whswap {w0 w:World} {R:List Res} {p n i k f gw cH cS cR:Nat} {pH pS pR:Option Addr} {QH QS QR:List Rw} {s:HS} (hp0:0 < p) (hp2:p < 4294967296) (hS:Sep w0 (.blk gw [.int .u64 ((p:Nat):Int),.slice pH n cH,.slice pS n cS,.slice pR n cR] 59 :: .lst 29 1 pH n cH (mmE QH) :: .lst 29 1 pS n cS (mmE QS) :: .lst 29 1 pR n cR (mmE QR) :: R) w) (hQH:nums QH = s.H) (hQS:nums QS = s.S) (hQR:nums QR = s.R) (hok:HOk p n s) (hn:n ≤ 1000) (hi:i < n) (hk:k < n) (hne:i ≠ k)  :
  Calls Tryd.prog 38 #[.pointer (some ⟨gw,0,none⟩),.int .i64 ((i:Nat):Int),.int .i64 ((k:Nat):Int)] w (RetS (HsX gw p n pH cH pS cS pR cR (s.swap i k)) w0 R):=by
 have hHl:QH.length = n:=by rw [nums_lenQ hQH]; exact hok.hl
 have hSl:QS.length = n:=by rw [nums_lenQ hQS]; exact hok.sl
 have hRl:QR.length = n:=by rw [nums_lenQ hQR]; exact hok.rl
 have sH:Shp p n (nums QH):=by rw [hQH]; exact hok.hs
 have sS:Shp p n (nums QS):=by rw [hQS]; exact hok.ss
 have sR:Shp p n (nums QR):=by rw [hQR]; exact hok.rs
 refine went Tryd.func38 rfl (n:=144) rfl rfl ?_
 refine wSq ?_
 obtain ⟨gH,hgH⟩:=hS.lstPtr 1 rfl (by omega)
 obtain ⟨gS,hgS⟩:=hS.lstPtr 2 rfl (by omega)
 obtain ⟨gR,hgR⟩:=hS.lstPtr 3 rfl (by omega)
 obtain ⟨⟨pa,ca,xa⟩,hqa⟩:∃ q,(QH)[i]? = some q:=⟨_,List.getElem?_eq_getElem (by omega)⟩
 have hda:(nums (QH)).getD i [] = xa:=getD_get (nums_get hqa)
 obtain ⟨hna,hlta⟩:=sH.get (nums_get hqa)
 simp only at hna hlta
 obtain ⟨ga,hga⟩:=hS.mPtr 1 rfl hqa (by show 0 < xa.length; omega)
 obtain ⟨⟨pb,cb,xb⟩,hqb⟩:∃ q,(QH)[k]? = some q:=⟨_,List.getElem?_eq_getElem (by omega)⟩
 have hdb:(nums (QH)).getD k [] = xb:=getD_get (nums_get hqb)
 obtain ⟨hnb,hltb⟩:=sH.get (nums_get hqb)
 simp only at hnb hltb
 obtain ⟨gb,hgb⟩:=hS.mPtr 1 rfl hqb (by show 0 < xb.length; omega)
 obtain ⟨⟨pu,cu,xu⟩,hqu⟩:∃ q,(QR)[i]? = some q:=⟨_,List.getElem?_eq_getElem (by omega)⟩
 have hdu:(nums (QR)).getD i [] = xu:=getD_get (nums_get hqu)
 obtain ⟨hnu,hltu⟩:=sR.get (nums_get hqu)
 simp only at hnu hltu
 obtain ⟨gu,hgu⟩:=hS.mPtr 3 rfl hqu (by show 0 < xu.length; omega)
 obtain ⟨⟨pv,cv,xv⟩,hqv⟩:∃ q,(QR)[k]? = some q:=⟨_,List.getElem?_eq_getElem (by omega)⟩
 have hdv:(nums (QR)).getD k [] = xv:=getD_get (nums_get hqv)
 obtain ⟨hnv,hltv⟩:=sR.get (nums_get hqv)
 simp only at hnv hltv
 obtain ⟨gv,hgv⟩:=hS.mPtr 3 rfl hqv (by show 0 < xv.length; omega)
 refine wSg 25 [7,8,9,10,11,12,13,14,15,16,17,18,19,20,21,22,23,24,25,26,27,28,29,30,31] [[],[0],[1,0],[2,0,1],[],[],[5],[6,5],[7,5,6],[],[],[10],[11,10],[12,10,11],[],[13,14,10,11,12],[15,10,11,12,13,14],[],[17],[18,17],[19,17,18],[],[20,21,17,18,19],[22,17,18,19,20,21],[3,4,0,1,2,5,6,7,8,10,11,12,13,14,15,16,17,18,19,20,21,22,23]] [] [9] [] (fun i9 => ([iSv (.pointer (some ⟨gw,0,none⟩)),iSv (.pointer (some ⟨gw,0,none⟩)),iSv (.pointer (some ⟨gw,1,none⟩)),iSv (.slice pH n cH),iSv (.int .i64 (i:Int)),iSv (.pointer (some ⟨gw,0,none⟩)),iSv (.pointer (some ⟨gw,0,none⟩)),iSv (.pointer (some ⟨gw,1,none⟩)),iSv (.slice pH n cH),iSv (.int .i64 (k:Int)),iSv (.pointer (some ⟨gw,0,none⟩)),iSv (.pointer (some ⟨gw,0,none⟩)),iSv (.pointer (some ⟨gw,1,none⟩)),iSv (.slice pH n cH),iSv (.int .i64 (k:Int)),iSv (.pointer (some ⟨gH,(0 + k * 1),none⟩)),iSv (.slice pb n cb),iSv (.pointer (some ⟨gw,0,none⟩)),iSv (.pointer (some ⟨gw,0,none⟩)),iSv (.pointer (some ⟨gw,1,none⟩)),iSv (.slice pH n cH),iSv (.int .i64 (i:Int)),iSv (.pointer (some ⟨gH,(0 + i * 1),none⟩)),iSv (.slice pa n ca),iSv (.pointer (some ⟨gH,(0 + i * 1),none⟩))]:List (List Value → Tell)).getD i9 (fun _ _ _ => False)) hNi (fun d _ _ _ _ h => (by cases d <;> exact h)) (by kernel_rfl) (by kernel_rfl) (by kernel_rfl) hS ?_ ?_
 ·
  refine stM rfl rfl rfl rfl rfl (fun _=>isI) ?_
  refine stT rfl (fun hT hS=>?_) ?_
  ·obtain ⟨hv0,hr0⟩:=hT 0 7 rfl rfl
   obtain hS:=(hS.flat1 hr0).front1
   exact inNo rfl (oNC (a:=⟨gw,0,none⟩) rfl rfl (ev rfl hv0) (nSm rfl isI))
  refine stT rfl (fun hT hS=>?_) ?_
  ·obtain ⟨hv1,hr1⟩:=hT 1 8 rfl rfl
   obtain hS:=(hS.flat1 hr1).front1
   exact inNo rfl (oFA (g:=gw) (off:=0) 1 rfl rfl (ev rfl hv1) Tryd.runUnderlying59 rfl Tryd.sizeOf23 rfl (nSm rfl isI))
  refine stT rfl (fun hT hS=>?_) ?_
  ·obtain ⟨hv2,hr2⟩:=hT 2 9 rfl rfl
   obtain hS:=(hS.flat1 hr2).front1
   exact inNo rfl (oL1 (v:=.slice pH n cH) ⟨Tryd.isAgg23,Tryd.sizeOf23⟩ hS 0 rfl rfl (ev rfl hv2) rfl rfl (nSm rfl isI))
  refine stM rfl rfl rfl rfl rfl (fun _=>isI) ?_
  refine stM rfl rfl rfl rfl rfl (fun _=>isI) ?_
  refine stT rfl (fun hT hS=>?_) ?_
  ·obtain ⟨hv5,hr5⟩:=hT 5 12 rfl rfl
   obtain hS:=(hS.flat1 hr5).front1
   exact inNo rfl (oNC (a:=⟨gw,0,none⟩) rfl rfl (ev rfl hv5) (nSm rfl isI))
  refine stT rfl (fun hT hS=>?_) ?_
  ·obtain ⟨hv6,hr6⟩:=hT 6 13 rfl rfl
   obtain hS:=(hS.flat1 hr6).front1
   exact inNo rfl (oFA (g:=gw) (off:=0) 1 rfl rfl (ev rfl hv6) Tryd.runUnderlying59 rfl Tryd.sizeOf23 rfl (nSm rfl isI))
  refine stT rfl (fun hT hS=>?_) ?_
  ·obtain ⟨hv7,hr7⟩:=hT 7 14 rfl rfl
   obtain hS:=(hS.flat1 hr7).front1
   exact inNo rfl (oL1 (v:=.slice pH n cH) ⟨Tryd.isAgg23,Tryd.sizeOf23⟩ hS 0 rfl rfl (ev rfl hv7) rfl rfl (nSm rfl isI))
  refine stepsPure rfl ?_ ?_
  ·intro f' ρ ho hT
   exact ⟨_,.inl ⟨wNo rfl,fun w hw => ymove (v:=.int .i64 (k:Int)) rfl (ev (v:=.int .i64 (k:Int)) rfl (ho 2 rfl)) w⟩,isI⟩
  refine stM rfl rfl rfl rfl rfl (fun _=>isI) ?_
  refine stT rfl (fun hT hS=>?_) ?_
  ·obtain ⟨hv10,hr10⟩:=hT 10 17 rfl rfl
   obtain hS:=(hS.flat1 hr10).front1
   exact inNo rfl (oNC (a:=⟨gw,0,none⟩) rfl rfl (ev rfl hv10) (nSm rfl isI))
  refine stT rfl (fun hT hS=>?_) ?_
  ·obtain ⟨hv11,hr11⟩:=hT 11 18 rfl rfl
   obtain hS:=(hS.flat1 hr11).front1
   exact inNo rfl (oFA (g:=gw) (off:=0) 1 rfl rfl (ev rfl hv11) Tryd.runUnderlying59 rfl Tryd.sizeOf23 rfl (nSm rfl isI))
  refine stT rfl (fun hT hS=>?_) ?_
  ·obtain ⟨hv12,hr12⟩:=hT 12 19 rfl rfl
   obtain hS:=(hS.flat1 hr12).front1
   exact inNo rfl (oL1 (v:=.slice pH n cH) ⟨Tryd.isAgg23,Tryd.sizeOf23⟩ hS 0 rfl rfl (ev rfl hv12) rfl rfl (nSm rfl isI))
  refine stM rfl rfl rfl rfl rfl (fun _=>isI) ?_
  refine stT rfl (fun hT hS=>?_) ?_
  ·obtain ⟨hv13,hr13⟩:=hT 13 20 rfl rfl
   obtain ⟨hv14,hr14⟩:=hT 14 21 rfl rfl
   obtain hS:=(hS.flat2 hr13 hr14).front2
   exact inNo rfl (oIx (p:=pH) (g:=gH) (off:=0) (m:=n) (k:=k) (j:=(0 + k * 1)) rfl rfl Tryd.runUnderlying23 Tryd.sizeOf29 (ev rfl hv13) hgH (ev rfl hv14) (by omega) rfl (nSm rfl isI))
  refine stT rfl (fun hT hS=>?_) ?_
  ·obtain ⟨hv15,hr15⟩:=hT 15 22 rfl rfl
   obtain hS:=(hS.flat1 hr15).front1
   exact inNo rfl (oLc (v:=.slice pb n cb) ⟨Tryd.isAgg29,Tryd.sizeOf29⟩ rfl rfl (ev (v:=.pointer (some ⟨gH,(0 + k * 1),none⟩)) rfl hv15) (hS.mRow 1 rfl hqb hnb hgH) (nSm rfl isI))
  refine stM rfl rfl rfl rfl rfl (fun _=>isI) ?_
  refine stT rfl (fun hT hS=>?_) ?_
  ·obtain ⟨hv17,hr17⟩:=hT 17 24 rfl rfl
   obtain hS:=(hS.flat1 hr17).front1
   exact inNo rfl (oNC (a:=⟨gw,0,none⟩) rfl rfl (ev rfl hv17) (nSm rfl isI))
  refine stT rfl (fun hT hS=>?_) ?_
  ·obtain ⟨hv18,hr18⟩:=hT 18 25 rfl rfl
   obtain hS:=(hS.flat1 hr18).front1
   exact inNo rfl (oFA (g:=gw) (off:=0) 1 rfl rfl (ev rfl hv18) Tryd.runUnderlying59 rfl Tryd.sizeOf23 rfl (nSm rfl isI))
  refine stT rfl (fun hT hS=>?_) ?_
  ·obtain ⟨hv19,hr19⟩:=hT 19 26 rfl rfl
   obtain hS:=(hS.flat1 hr19).front1
   exact inNo rfl (oL1 (v:=.slice pH n cH) ⟨Tryd.isAgg23,Tryd.sizeOf23⟩ hS 0 rfl rfl (ev rfl hv19) rfl rfl (nSm rfl isI))
  refine stM rfl rfl rfl rfl rfl (fun _=>isI) ?_
  refine stT rfl (fun hT hS=>?_) ?_
  ·obtain ⟨hv20,hr20⟩:=hT 20 27 rfl rfl
   obtain ⟨hv21,hr21⟩:=hT 21 28 rfl rfl
   obtain hS:=(hS.flat2 hr20 hr21).front2
   exact inNo rfl (oIx (p:=pH) (g:=gH) (off:=0) (m:=n) (k:=i) (j:=(0 + i * 1)) rfl rfl Tryd.runUnderlying23 Tryd.sizeOf29 (ev rfl hv20) hgH (ev rfl hv21) (by omega) rfl (nSm rfl isI))
  refine stT rfl (fun hT hS=>?_) ?_
  ·obtain ⟨hv22,hr22⟩:=hT 22 29 rfl rfl
   obtain hS:=(hS.flat1 hr22).front1
   exact inNo rfl (oLc (v:=.slice pa n ca) ⟨Tryd.isAgg29,Tryd.sizeOf29⟩ rfl rfl (ev (v:=.pointer (some ⟨gH,(0 + i * 1),none⟩)) rfl hv22) (hS.mRow 1 rfl hqa hna hgH) (nSm rfl isI))
  refine stT rfl (fun hT hS=>?_) ?_
  ·obtain ⟨hv3,hr3⟩:=hT 3 10 rfl rfl
   obtain ⟨hv4,hr4⟩:=hT 4 11 rfl rfl
   obtain hS:=(hS.flat2 hr3 hr4).front2
   exact inNo rfl (oIx (p:=pH) (g:=gH) (off:=0) (m:=n) (k:=i) (j:=(0 + i * 1)) rfl rfl Tryd.runUnderlying23 Tryd.sizeOf29 (ev rfl hv3) hgH (ev rfl hv4) (by omega) rfl (nSm rfl isI))
  exact sNi
 intro vs ρ w1 f' hf hT hS
 obtain ⟨hv0,hr0⟩:=hT 0 (by decide)
 obtain ⟨hv1,hr1⟩:=hT 1 (by decide)
 obtain ⟨hv2,hr2⟩:=hT 2 (by decide)
 obtain ⟨hv3,hr3⟩:=hT 3 (by decide)
 obtain ⟨hv4,hr4⟩:=hT 4 (by decide)
 obtain ⟨hv5,hr5⟩:=hT 5 (by decide)
 obtain ⟨hv6,hr6⟩:=hT 6 (by decide)
 obtain ⟨hv7,hr7⟩:=hT 7 (by decide)
 obtain ⟨hv8,hr8⟩:=hT 8 (by decide)
 obtain ⟨hv9,hr9⟩:=hT 9 (by decide)
 obtain ⟨hv10,hr10⟩:=hT 10 (by decide)
 obtain ⟨hv11,hr11⟩:=hT 11 (by decide)
 obtain ⟨hv12,hr12⟩:=hT 12 (by decide)
 obtain ⟨hv13,hr13⟩:=hT 13 (by decide)
 obtain ⟨hv14,hr14⟩:=hT 14 (by decide)
 obtain ⟨hv15,hr15⟩:=hT 15 (by decide)
 obtain ⟨hv16,hr16⟩:=hT 16 (by decide)
 obtain ⟨hv17,hr17⟩:=hT 17 (by decide)
 obtain ⟨hv18,hr18⟩:=hT 18 (by decide)
 obtain ⟨hv19,hr19⟩:=hT 19 (by decide)
 obtain ⟨hv20,hr20⟩:=hT 20 (by decide)
 obtain ⟨hv21,hr21⟩:=hT 21 (by decide)
 obtain ⟨hv22,hr22⟩:=hT 22 (by decide)
 obtain ⟨hv23,hr23⟩:=hT 23 (by decide)
 obtain ⟨hv24,hr24⟩:=hT 24 (by decide)
 simp only [pool,if_true,hr0,hr1,hr2,hr3,hr4,hr5,hr6,hr7,hr8,hr9,hr10,hr11,hr12,hr13,hr14,hr15,hr16,hr17,hr18,hr19,hr20,hr21,hr22,hr23,hr24,List.nil_append,List.cons_append,List.append_nil] at hS
 simp only [layf,hv0,hv1,hv2,hv3,hv4,hv5,hv6,hv7,hv8,hv9,hv10,hv11,hv12,hv13,hv14,hv15,hv16,hv17,hv18,hv19,hv20,hv21,hv22,hv23,hv24] at hf
 subst hf; clear hT hv0 hv1 hv2 hv3 hv4 hv5 hv6 hv7 hv8 hv9 hv10 hv11 hv12 hv13 hv14 hv15 hv16 hv17 hv18 hv19 hv20 hv21 hv22 hv23 hv24 hr0 hr1 hr2 hr3 hr4 hr5 hr6 hr7 hr8 hr9 hr10 hr11 hr12 hr13 hr14 hr15 hr16 hr17 hr18 hr19 hr20 hr21 hr22 hr23 hr24
 obtain hS:=(show Sep w0 (.lst 29 1 pH n cH (mmE QH) :: .blk gw [.int .u64 (((p:Nat):Int)),.slice pH n cH,.slice pS n cS,.slice pR n cR] 59 :: .lst 29 1 pS n cS (mmE QS) :: .lst 29 1 pR n cR (mmE QR) :: R) w1 from Sep.pickT [.blk gw [.int .u64 (((p:Nat):Int)),.slice pH n cH,.slice pS n cS,.slice pR n cR] 59,.lst 29 1 pH n cH (mmE QH),.lst 29 1 pS n cS (mmE QS),.lst 29 1 pR n cR (mmE QR)] [.lst 29 1 pH n cH (mmE QH),.blk gw [.int .u64 (((p:Nat):Int)),.slice pH n cH,.slice pS n cS,.slice pR n cR] 59,.lst 29 1 pS n cS (mmE QS),.lst 29 1 pR n cR (mmE QR)] hS [1,0,2,3] (by decide) rfl)
 obtain hS:=hS.take2 hqa hqb hne hna hnb
 obtain hS:=(show Sep w0 (.rowm pb n cb xb :: .lst 29 1 pH n cH (((mmE QH).set i ⟨[.slice pa n ca],[]⟩).set k ⟨[.slice pb n cb],[]⟩) :: .rowm pa n ca xa :: .blk gw [.int .u64 (((p:Nat):Int)),.slice pH n cH,.slice pS n cS,.slice pR n cR] 59 :: .lst 29 1 pS n cS (mmE QS) :: .lst 29 1 pR n cR (mmE QR) :: R) w1 from Sep.pickT [.rowm pa n ca xa,.rowm pb n cb xb,.lst 29 1 pH n cH (((mmE QH).set i ⟨[.slice pa n ca],[]⟩).set k ⟨[.slice pb n cb],[]⟩),.blk gw [.int .u64 (((p:Nat):Int)),.slice pH n cH,.slice pS n cS,.slice pR n cR] 59,.lst 29 1 pS n cS (mmE QS),.lst 29 1 pR n cR (mmE QR)] [.rowm pb n cb xb,.lst 29 1 pH n cH (((mmE QH).set i ⟨[.slice pa n ca],[]⟩).set k ⟨[.slice pb n cb],[]⟩),.rowm pa n ca xa,.blk gw [.int .u64 (((p:Nat):Int)),.slice pH n cH,.slice pS n cS,.slice pR n cR] 59,.lst 29 1 pS n cS (mmE QS),.lst 29 1 pR n cR (mmE QR)] hS [1,2,0,3,4,5] (by decide) rfl)
 refine wLt 25 rfl (by kernel_rfl) (ostoreL (i:=i) (g:=gH) [.slice pb n cb] [.rowm pb n cb xb] Tryd.sizeOf29 hS rfl rfl (ev (v:=.pointer (some ⟨gH,(0 + i * 1),none⟩)) rfl rfl) (ev (v:=.slice pb n cb) rfl rfl) (rfl) rfl rfl rfl hgH (by omega) rfl ?_)
 clear hS; intro w2 hS
 refine ⟨hNi,?_⟩
 refine wLt 26 rfl (by kernel_rfl) (oIx (p:=pH) (g:=gH) (off:=0) (m:=n) (k:=k) (j:=(0 + k * 1)) rfl rfl Tryd.runUnderlying23 Tryd.sizeOf29 (ev rfl rfl) hgH (ev rfl rfl) (by omega) rfl ?_)
 refine ⟨hNi,?_⟩
 obtain hS:=(show Sep w0 (.rowm pa n ca xa :: .lst 29 1 pH n cH ((((mmE QH).set i ⟨[.slice pa n ca],[]⟩).set k ⟨[.slice pb n cb],[]⟩).set i ⟨[.slice pb n cb],[.rowm pb n cb xb]⟩) :: .blk gw [.int .u64 (((p:Nat):Int)),.slice pH n cH,.slice pS n cS,.slice pR n cR] 59 :: .lst 29 1 pS n cS (mmE QS) :: .lst 29 1 pR n cR (mmE QR) :: R) w2 from Sep.pickT [.lst 29 1 pH n cH ((((mmE QH).set i ⟨[.slice pa n ca],[]⟩).set k ⟨[.slice pb n cb],[]⟩).set i ⟨[.slice pb n cb],[.rowm pb n cb xb]⟩),.rowm pa n ca xa,.blk gw [.int .u64 (((p:Nat):Int)),.slice pH n cH,.slice pS n cS,.slice pR n cR] 59,.lst 29 1 pS n cS (mmE QS),.lst 29 1 pR n cR (mmE QR)] [.rowm pa n ca xa,.lst 29 1 pH n cH ((((mmE QH).set i ⟨[.slice pa n ca],[]⟩).set k ⟨[.slice pb n cb],[]⟩).set i ⟨[.slice pb n cb],[.rowm pb n cb xb]⟩),.blk gw [.int .u64 (((p:Nat):Int)),.slice pH n cH,.slice pS n cS,.slice pR n cR] 59,.lst 29 1 pS n cS (mmE QS),.lst 29 1 pR n cR (mmE QR)] hS [1,0,2,3,4] (by decide) rfl)
 refine wLt 27 rfl (by kernel_rfl) (ostoreL (i:=k) (g:=gH) [.slice pa n ca] [.rowm pa n ca xa] Tryd.sizeOf29 hS rfl rfl (ev (v:=.pointer (some ⟨gH,(0 + k * 1),none⟩)) rfl rfl) (ev (v:=.slice pa n ca) rfl rfl) (rfl) rfl rfl rfl hgH (by omega) rfl ?_)
 clear hS; intro w3 hS
 refine ⟨hNi,?_⟩
 refine wdone rfl ?_
 refine tNo (wSq ?_)
 refine wSg 25 [33,34,35,36,37,38,39,40,41,42,43,44,45,46,47,48,49,50,51,52,53,54,55,56,57] [[],[0],[1,0],[2,0,1],[],[],[5],[6,5],[7,5,6],[],[],[10],[11,10],[12,10,11],[],[13,14,10,11,12],[15,10,11,12,13,14],[],[17],[18,17],[19,17,18],[],[20,21,17,18,19],[22,17,18,19,20,21],[3,4,0,1,2,5,6,7,8,10,11,12,13,14,15,16,17,18,19,20,21,22,23]] [] [9] [] (fun i9 => ([iSv (.pointer (some ⟨gw,0,none⟩)),iSv (.pointer (some ⟨gw,0,none⟩)),iSv (.pointer (some ⟨gw,3,none⟩)),iSv (.slice pR n cR),iSv (.int .i64 (i:Int)),iSv (.pointer (some ⟨gw,0,none⟩)),iSv (.pointer (some ⟨gw,0,none⟩)),iSv (.pointer (some ⟨gw,3,none⟩)),iSv (.slice pR n cR),iSv (.int .i64 (k:Int)),iSv (.pointer (some ⟨gw,0,none⟩)),iSv (.pointer (some ⟨gw,0,none⟩)),iSv (.pointer (some ⟨gw,3,none⟩)),iSv (.slice pR n cR),iSv (.int .i64 (k:Int)),iSv (.pointer (some ⟨gR,(0 + k * 1),none⟩)),iSv (.slice pv n cv),iSv (.pointer (some ⟨gw,0,none⟩)),iSv (.pointer (some ⟨gw,0,none⟩)),iSv (.pointer (some ⟨gw,3,none⟩)),iSv (.slice pR n cR),iSv (.int .i64 (i:Int)),iSv (.pointer (some ⟨gR,(0 + i * 1),none⟩)),iSv (.slice pu n cu),iSv (.pointer (some ⟨gR,(0 + i * 1),none⟩))]:List (List Value → Tell)).getD i9 (fun _ _ _ => False)) hNi (fun d _ _ _ _ h => (by cases d <;> exact h)) (by kernel_rfl) (by kernel_rfl) (by kernel_rfl) hS ?_ ?_
 ·
  refine stM rfl rfl rfl rfl rfl (fun _=>isI) ?_
  refine stT rfl (fun hT hS=>?_) ?_
  ·obtain ⟨hv0,hr0⟩:=hT 0 33 rfl rfl
   obtain hS:=(hS.flat1 hr0).front1
   exact inNo rfl (oNC (a:=⟨gw,0,none⟩) rfl rfl (ev rfl hv0) (nSm rfl isI))
  refine stT rfl (fun hT hS=>?_) ?_
  ·obtain ⟨hv1,hr1⟩:=hT 1 34 rfl rfl
   obtain hS:=(hS.flat1 hr1).front1
   exact inNo rfl (oFA (g:=gw) (off:=0) 3 rfl rfl (ev rfl hv1) Tryd.runUnderlying59 rfl Tryd.sizeOf23 rfl (nSm rfl isI))
  refine stT rfl (fun hT hS=>?_) ?_
  ·obtain ⟨hv2,hr2⟩:=hT 2 35 rfl rfl
   obtain hS:=(hS.flat1 hr2).front1
   exact inNo rfl (oL1 (v:=.slice pR n cR) ⟨Tryd.isAgg23,Tryd.sizeOf23⟩ hS 1 rfl rfl (ev rfl hv2) rfl rfl (nSm rfl isI))
  refine stM rfl rfl rfl rfl rfl (fun _=>isI) ?_
  refine stM rfl rfl rfl rfl rfl (fun _=>isI) ?_
  refine stT rfl (fun hT hS=>?_) ?_
  ·obtain ⟨hv5,hr5⟩:=hT 5 38 rfl rfl
   obtain hS:=(hS.flat1 hr5).front1
   exact inNo rfl (oNC (a:=⟨gw,0,none⟩) rfl rfl (ev rfl hv5) (nSm rfl isI))
  refine stT rfl (fun hT hS=>?_) ?_
  ·obtain ⟨hv6,hr6⟩:=hT 6 39 rfl rfl
   obtain hS:=(hS.flat1 hr6).front1
   exact inNo rfl (oFA (g:=gw) (off:=0) 3 rfl rfl (ev rfl hv6) Tryd.runUnderlying59 rfl Tryd.sizeOf23 rfl (nSm rfl isI))
  refine stT rfl (fun hT hS=>?_) ?_
  ·obtain ⟨hv7,hr7⟩:=hT 7 40 rfl rfl
   obtain hS:=(hS.flat1 hr7).front1
   exact inNo rfl (oL1 (v:=.slice pR n cR) ⟨Tryd.isAgg23,Tryd.sizeOf23⟩ hS 1 rfl rfl (ev rfl hv7) rfl rfl (nSm rfl isI))
  refine stepsPure rfl ?_ ?_
  ·intro f' ρ ho hT
   exact ⟨_,.inl ⟨wNo rfl,fun w hw => ymove (v:=.int .i64 (k:Int)) rfl (ev (v:=.int .i64 (k:Int)) rfl (ho 2 rfl)) w⟩,isI⟩
  refine stM rfl rfl rfl rfl rfl (fun _=>isI) ?_
  refine stT rfl (fun hT hS=>?_) ?_
  ·obtain ⟨hv10,hr10⟩:=hT 10 43 rfl rfl
   obtain hS:=(hS.flat1 hr10).front1
   exact inNo rfl (oNC (a:=⟨gw,0,none⟩) rfl rfl (ev rfl hv10) (nSm rfl isI))
  refine stT rfl (fun hT hS=>?_) ?_
  ·obtain ⟨hv11,hr11⟩:=hT 11 44 rfl rfl
   obtain hS:=(hS.flat1 hr11).front1
   exact inNo rfl (oFA (g:=gw) (off:=0) 3 rfl rfl (ev rfl hv11) Tryd.runUnderlying59 rfl Tryd.sizeOf23 rfl (nSm rfl isI))
  refine stT rfl (fun hT hS=>?_) ?_
  ·obtain ⟨hv12,hr12⟩:=hT 12 45 rfl rfl
   obtain hS:=(hS.flat1 hr12).front1
   exact inNo rfl (oL1 (v:=.slice pR n cR) ⟨Tryd.isAgg23,Tryd.sizeOf23⟩ hS 1 rfl rfl (ev rfl hv12) rfl rfl (nSm rfl isI))
  refine stM rfl rfl rfl rfl rfl (fun _=>isI) ?_
  refine stT rfl (fun hT hS=>?_) ?_
  ·obtain ⟨hv13,hr13⟩:=hT 13 46 rfl rfl
   obtain ⟨hv14,hr14⟩:=hT 14 47 rfl rfl
   obtain hS:=(hS.flat2 hr13 hr14).front2
   exact inNo rfl (oIx (p:=pR) (g:=gR) (off:=0) (m:=n) (k:=k) (j:=(0 + k * 1)) rfl rfl Tryd.runUnderlying23 Tryd.sizeOf29 (ev rfl hv13) hgR (ev rfl hv14) (by omega) rfl (nSm rfl isI))
  refine stT rfl (fun hT hS=>?_) ?_
  ·obtain ⟨hv15,hr15⟩:=hT 15 48 rfl rfl
   obtain hS:=(hS.flat1 hr15).front1
   exact inNo rfl (oLc (v:=.slice pv n cv) ⟨Tryd.isAgg29,Tryd.sizeOf29⟩ rfl rfl (ev (v:=.pointer (some ⟨gR,(0 + k * 1),none⟩)) rfl hv15) (hS.mRow 3 rfl hqv hnv hgR) (nSm rfl isI))
  refine stM rfl rfl rfl rfl rfl (fun _=>isI) ?_
  refine stT rfl (fun hT hS=>?_) ?_
  ·obtain ⟨hv17,hr17⟩:=hT 17 50 rfl rfl
   obtain hS:=(hS.flat1 hr17).front1
   exact inNo rfl (oNC (a:=⟨gw,0,none⟩) rfl rfl (ev rfl hv17) (nSm rfl isI))
  refine stT rfl (fun hT hS=>?_) ?_
  ·obtain ⟨hv18,hr18⟩:=hT 18 51 rfl rfl
   obtain hS:=(hS.flat1 hr18).front1
   exact inNo rfl (oFA (g:=gw) (off:=0) 3 rfl rfl (ev rfl hv18) Tryd.runUnderlying59 rfl Tryd.sizeOf23 rfl (nSm rfl isI))
  refine stT rfl (fun hT hS=>?_) ?_
  ·obtain ⟨hv19,hr19⟩:=hT 19 52 rfl rfl
   obtain hS:=(hS.flat1 hr19).front1
   exact inNo rfl (oL1 (v:=.slice pR n cR) ⟨Tryd.isAgg23,Tryd.sizeOf23⟩ hS 1 rfl rfl (ev rfl hv19) rfl rfl (nSm rfl isI))
  refine stM rfl rfl rfl rfl rfl (fun _=>isI) ?_
  refine stT rfl (fun hT hS=>?_) ?_
  ·obtain ⟨hv20,hr20⟩:=hT 20 53 rfl rfl
   obtain ⟨hv21,hr21⟩:=hT 21 54 rfl rfl
   obtain hS:=(hS.flat2 hr20 hr21).front2
   exact inNo rfl (oIx (p:=pR) (g:=gR) (off:=0) (m:=n) (k:=i) (j:=(0 + i * 1)) rfl rfl Tryd.runUnderlying23 Tryd.sizeOf29 (ev rfl hv20) hgR (ev rfl hv21) (by omega) rfl (nSm rfl isI))
  refine stT rfl (fun hT hS=>?_) ?_
  ·obtain ⟨hv22,hr22⟩:=hT 22 55 rfl rfl
   obtain hS:=(hS.flat1 hr22).front1
   exact inNo rfl (oLc (v:=.slice pu n cu) ⟨Tryd.isAgg29,Tryd.sizeOf29⟩ rfl rfl (ev (v:=.pointer (some ⟨gR,(0 + i * 1),none⟩)) rfl hv22) (hS.mRow 3 rfl hqu hnu hgR) (nSm rfl isI))
  refine stT rfl (fun hT hS=>?_) ?_
  ·obtain ⟨hv3,hr3⟩:=hT 3 36 rfl rfl
   obtain ⟨hv4,hr4⟩:=hT 4 37 rfl rfl
   obtain hS:=(hS.flat2 hr3 hr4).front2
   exact inNo rfl (oIx (p:=pR) (g:=gR) (off:=0) (m:=n) (k:=i) (j:=(0 + i * 1)) rfl rfl Tryd.runUnderlying23 Tryd.sizeOf29 (ev rfl hv3) hgR (ev rfl hv4) (by omega) rfl (nSm rfl isI))
  exact sNi
 intro vs ρ w4 f' hf hT hS
 obtain ⟨hv0,hr0⟩:=hT 0 (by decide)
 obtain ⟨hv1,hr1⟩:=hT 1 (by decide)
 obtain ⟨hv2,hr2⟩:=hT 2 (by decide)
 obtain ⟨hv3,hr3⟩:=hT 3 (by decide)
 obtain ⟨hv4,hr4⟩:=hT 4 (by decide)
 obtain ⟨hv5,hr5⟩:=hT 5 (by decide)
 obtain ⟨hv6,hr6⟩:=hT 6 (by decide)
 obtain ⟨hv7,hr7⟩:=hT 7 (by decide)
 obtain ⟨hv8,hr8⟩:=hT 8 (by decide)
 obtain ⟨hv9,hr9⟩:=hT 9 (by decide)
 obtain ⟨hv10,hr10⟩:=hT 10 (by decide)
 obtain ⟨hv11,hr11⟩:=hT 11 (by decide)
 obtain ⟨hv12,hr12⟩:=hT 12 (by decide)
 obtain ⟨hv13,hr13⟩:=hT 13 (by decide)
 obtain ⟨hv14,hr14⟩:=hT 14 (by decide)
 obtain ⟨hv15,hr15⟩:=hT 15 (by decide)
 obtain ⟨hv16,hr16⟩:=hT 16 (by decide)
 obtain ⟨hv17,hr17⟩:=hT 17 (by decide)
 obtain ⟨hv18,hr18⟩:=hT 18 (by decide)
 obtain ⟨hv19,hr19⟩:=hT 19 (by decide)
 obtain ⟨hv20,hr20⟩:=hT 20 (by decide)
 obtain ⟨hv21,hr21⟩:=hT 21 (by decide)
 obtain ⟨hv22,hr22⟩:=hT 22 (by decide)
 obtain ⟨hv23,hr23⟩:=hT 23 (by decide)
 obtain ⟨hv24,hr24⟩:=hT 24 (by decide)
 simp only [pool,if_true,hr0,hr1,hr2,hr3,hr4,hr5,hr6,hr7,hr8,hr9,hr10,hr11,hr12,hr13,hr14,hr15,hr16,hr17,hr18,hr19,hr20,hr21,hr22,hr23,hr24,List.nil_append,List.cons_append,List.append_nil] at hS
 simp only [layf,hv0,hv1,hv2,hv3,hv4,hv5,hv6,hv7,hv8,hv9,hv10,hv11,hv12,hv13,hv14,hv15,hv16,hv17,hv18,hv19,hv20,hv21,hv22,hv23,hv24] at hf
 subst hf; clear hT hv0 hv1 hv2 hv3 hv4 hv5 hv6 hv7 hv8 hv9 hv10 hv11 hv12 hv13 hv14 hv15 hv16 hv17 hv18 hv19 hv20 hv21 hv22 hv23 hv24 hr0 hr1 hr2 hr3 hr4 hr5 hr6 hr7 hr8 hr9 hr10 hr11 hr12 hr13 hr14 hr15 hr16 hr17 hr18 hr19 hr20 hr21 hr22 hr23 hr24
 rw [swap_mm hne hna hnb] at hS
 obtain hS:=(show Sep w0 (.lst 29 1 pR n cR (mmE QR) :: .lst 29 1 pH n cH (mmE ((QH.set i ⟨pb,cb,xb⟩).set k ⟨pa,ca,xa⟩)) :: .blk gw [.int .u64 (((p:Nat):Int)),.slice pH n cH,.slice pS n cS,.slice pR n cR] 59 :: .lst 29 1 pS n cS (mmE QS) :: R) w4 from Sep.pickT [.lst 29 1 pH n cH (mmE ((QH.set i ⟨pb,cb,xb⟩).set k ⟨pa,ca,xa⟩)),.blk gw [.int .u64 (((p:Nat):Int)),.slice pH n cH,.slice pS n cS,.slice pR n cR] 59,.lst 29 1 pS n cS (mmE QS),.lst 29 1 pR n cR (mmE QR)] [.lst 29 1 pR n cR (mmE QR),.lst 29 1 pH n cH (mmE ((QH.set i ⟨pb,cb,xb⟩).set k ⟨pa,ca,xa⟩)),.blk gw [.int .u64 (((p:Nat):Int)),.slice pH n cH,.slice pS n cS,.slice pR n cR] 59,.lst 29 1 pS n cS (mmE QS)] hS [3,0,1,2] (by decide) rfl)
 obtain hS:=hS.take2 hqu hqv hne hnu hnv
 obtain hS:=(show Sep w0 (.rowm pv n cv xv :: .lst 29 1 pR n cR (((mmE QR).set i ⟨[.slice pu n cu],[]⟩).set k ⟨[.slice pv n cv],[]⟩) :: .rowm pu n cu xu :: .lst 29 1 pH n cH (mmE ((QH.set i ⟨pb,cb,xb⟩).set k ⟨pa,ca,xa⟩)) :: .blk gw [.int .u64 (((p:Nat):Int)),.slice pH n cH,.slice pS n cS,.slice pR n cR] 59 :: .lst 29 1 pS n cS (mmE QS) :: R) w4 from Sep.pickT [.rowm pu n cu xu,.rowm pv n cv xv,.lst 29 1 pR n cR (((mmE QR).set i ⟨[.slice pu n cu],[]⟩).set k ⟨[.slice pv n cv],[]⟩),.lst 29 1 pH n cH (mmE ((QH.set i ⟨pb,cb,xb⟩).set k ⟨pa,ca,xa⟩)),.blk gw [.int .u64 (((p:Nat):Int)),.slice pH n cH,.slice pS n cS,.slice pR n cR] 59,.lst 29 1 pS n cS (mmE QS)] [.rowm pv n cv xv,.lst 29 1 pR n cR (((mmE QR).set i ⟨[.slice pu n cu],[]⟩).set k ⟨[.slice pv n cv],[]⟩),.rowm pu n cu xu,.lst 29 1 pH n cH (mmE ((QH.set i ⟨pb,cb,xb⟩).set k ⟨pa,ca,xa⟩)),.blk gw [.int .u64 (((p:Nat):Int)),.slice pH n cH,.slice pS n cS,.slice pR n cR] 59,.lst 29 1 pS n cS (mmE QS)] hS [1,2,0,3,4,5] (by decide) rfl)
 refine wLt 25 rfl (by kernel_rfl) (ostoreL (i:=i) (g:=gR) [.slice pv n cv] [.rowm pv n cv xv] Tryd.sizeOf29 hS rfl rfl (ev (v:=.pointer (some ⟨gR,(0 + i * 1),none⟩)) rfl rfl) (ev (v:=.slice pv n cv) rfl rfl) (rfl) rfl rfl rfl hgR (by omega) rfl ?_)
 clear hS; intro w5 hS
 refine ⟨hNi,?_⟩
 refine wLt 26 rfl (by kernel_rfl) (oIx (p:=pR) (g:=gR) (off:=0) (m:=n) (k:=k) (j:=(0 + k * 1)) rfl rfl Tryd.runUnderlying23 Tryd.sizeOf29 (ev rfl rfl) hgR (ev rfl rfl) (by omega) rfl ?_)
 refine ⟨hNi,?_⟩
 obtain hS:=(show Sep w0 (.rowm pu n cu xu :: .lst 29 1 pR n cR ((((mmE QR).set i ⟨[.slice pu n cu],[]⟩).set k ⟨[.slice pv n cv],[]⟩).set i ⟨[.slice pv n cv],[.rowm pv n cv xv]⟩) :: .lst 29 1 pH n cH (mmE ((QH.set i ⟨pb,cb,xb⟩).set k ⟨pa,ca,xa⟩)) :: .blk gw [.int .u64 (((p:Nat):Int)),.slice pH n cH,.slice pS n cS,.slice pR n cR] 59 :: .lst 29 1 pS n cS (mmE QS) :: R) w5 from Sep.pickT [.lst 29 1 pR n cR ((((mmE QR).set i ⟨[.slice pu n cu],[]⟩).set k ⟨[.slice pv n cv],[]⟩).set i ⟨[.slice pv n cv],[.rowm pv n cv xv]⟩),.rowm pu n cu xu,.lst 29 1 pH n cH (mmE ((QH.set i ⟨pb,cb,xb⟩).set k ⟨pa,ca,xa⟩)),.blk gw [.int .u64 (((p:Nat):Int)),.slice pH n cH,.slice pS n cS,.slice pR n cR] 59,.lst 29 1 pS n cS (mmE QS)] [.rowm pu n cu xu,.lst 29 1 pR n cR ((((mmE QR).set i ⟨[.slice pu n cu],[]⟩).set k ⟨[.slice pv n cv],[]⟩).set i ⟨[.slice pv n cv],[.rowm pv n cv xv]⟩),.lst 29 1 pH n cH (mmE ((QH.set i ⟨pb,cb,xb⟩).set k ⟨pa,ca,xa⟩)),.blk gw [.int .u64 (((p:Nat):Int)),.slice pH n cH,.slice pS n cS,.slice pR n cR] 59,.lst 29 1 pS n cS (mmE QS)] hS [1,0,2,3,4] (by decide) rfl)
 refine wLt 27 rfl (by kernel_rfl) (ostoreL (i:=k) (g:=gR) [.slice pu n cu] [.rowm pu n cu xu] Tryd.sizeOf29 hS rfl rfl (ev (v:=.pointer (some ⟨gR,(0 + k * 1),none⟩)) rfl rfl) (ev (v:=.slice pu n cu) rfl rfl) (rfl) rfl rfl rfl hgR (by omega) rfl ?_)
 clear hS; intro w6 hS
 refine ⟨hNi,?_⟩
 refine wdone rfl ?_
 refine tNo (wsr (wmv (v:=.pointer (some ⟨gw,0,none⟩)) rfl rfl ?_))
 refine wl rfl (oNC (a:=⟨gw,0,none⟩) rfl rfl (ev rfl rfl) ?_)
 refine wl rfl (oFA (g:=gw) (off:=0) 1 rfl rfl (ev rfl rfl) Tryd.runUnderlying59 rfl Tryd.sizeOf23 rfl ?_)
 refine wl rfl (oL1 (v:=.slice pH n cH) ⟨Tryd.isAgg23,Tryd.sizeOf23⟩ hS 2 rfl rfl (ev rfl rfl) rfl rfl ?_)
 refine wl rfl (olen rfl rfl rfl Tryd.runUnderlying23 (p:=pH) (k:=n) (m:=cH) (ev rfl rfl) ?_)
 refine wmvc ?_
 refine wn1 (wBk ?_)
 rw [swap_mm hne hnu hnv] at hS
 refine wLp (σ := Nat) (fun l a9 w' => ∃ (fb:Nat → Value) (GH:List Rw) (GS:List Rw),a9 = act 144 (sets fb [(0,.pointer (some ⟨gw,0,none⟩)),(1,.int .i64 (i:Int)),(2,.int .i64 (k:Int)),(63,.int .i64 (n:Int)),(64,.int .i64 (l:Int))]) ∧ Sep w0 (.lst 29 1 pR n cR (mmE ((QR.set i ⟨pv,cv,xv⟩).set k ⟨pu,cu,xu⟩)) :: .lst 29 1 pH n cH (mmE GH) :: .blk gw [.int .u64 (p:Int),.slice pH n cH,.slice pS n cS,.slice pR n cR] 59 :: .lst 29 1 pS n cS (mmE GS) :: R) w' ∧ (l ≤ n) ∧ (nums GH = mapTo (swapR i k) (swapM s.H i k) l) ∧ (nums GS = mapTo (swapR i k) s.S l)) (fun l => n - l) (0) ⟨_,((QH.set i ⟨pb,cb,xb⟩).set k ⟨pa,ca,xa⟩),QS,aSs ⟨rfl,rfl,rfl,rfl,rfl,trivial⟩,hS,Nat.zero_le _,by rw [nums_set,nums_set]; show _ = swapM s.H i k; unfold swapM; rw [← hQH,hda,hdb],hQS⟩ ?_
 clear hS; rintro l _ w7 ⟨fb,GH,GS,rfl,hS,hl,hG,hF⟩
 refine wsr ?_
 by_cases hln:l < n
 ·
  have hGl:GH.length = n:=by rw [nums_lenQ hG,mapTo_len,swapM_len]; exact hok.hl
  have hFl:GS.length = n:=by rw [nums_lenQ hF,mapTo_len]; exact hok.sl
  have sG:Shp p n (nums GH):=by rw [hG]; exact Shp.mapTo (swapM_shp hok.hs (by rw [hok.hl]; exact hi) (by rw [hok.hl]; exact hk)) (fun r hr => ⟨by show (swapR i k r).length = n; rw [swapR_len]; exact hr.1,set_lt (set_lt hr.2 (lt_nd hr.2 hp0 _)) (lt_nd hr.2 hp0 _)⟩) l (by rw [swapM_len,hok.hl]; omega)
  have sF:Shp p n (nums GS):=by rw [hF]; exact Shp.mapTo hok.ss (fun r hr => ⟨by show (swapR i k r).length = n; rw [swapR_len]; exact hr.1,set_lt (set_lt hr.2 (lt_nd hr.2 hp0 _)) (lt_nd hr.2 hp0 _)⟩) l (by rw [hok.sl]; omega)
  refine wbt (u:=.int .i64 (l:Int)) (v:=.int .i64 (n:Int)) rfl rfl rfl rfl (bLs (decide_eq_true (by omega))) ?_
  refine wn1 (wSq ?_)
  refine wT (ev rfl rfl) ?_
  refine wk2 (wmv (v:=.int .i64 (l:Int)) rfl rfl ?_)
  refine wav (v:=.int .i64 (l:Int)) rfl rfl ?_
  refine wn1 (wSq ?_)
  obtain ⟨⟨pc,cc,xc⟩,hqc⟩:∃ q,(GH)[l]? = some q:=⟨_,List.getElem?_eq_getElem (by omega)⟩
  have hdc:(nums (GH)).getD l [] = xc:=getD_get (nums_get hqc)
  obtain ⟨hnc,hltc⟩:=sG.get (nums_get hqc)
  simp only at hnc hltc
  obtain ⟨gc,hgc⟩:=hS.mPtr 1 rfl hqc (by show 0 < xc.length; omega)
  obtain ⟨⟨pd,cd,xd⟩,hqd⟩:∃ q,(GS)[l]? = some q:=⟨_,List.getElem?_eq_getElem (by omega)⟩
  have hdd:(nums (GS)).getD l [] = xd:=getD_get (nums_get hqd)
  obtain ⟨hnd,hltd⟩:=sF.get (nums_get hqd)
  simp only at hnd hltd
  obtain ⟨gd,hgd⟩:=hS.mPtr 3 rfl hqd (by show 0 < xd.length; omega)
  have hwc:=lt_nd hltc hp0 k
  have hvc:=lt_nd hltc hp0 i
  have hslc:(xc.set i (nd xc k)).length = xc.length:=List.length_set ..
  have hwd:=lt_nd hltd hp0 k
  have hvd:=lt_nd hltd hp0 i
  have hsld:(xd.set i (nd xd k)).length = xd.length:=List.length_set ..
  refine wSg 37 [67,68,69,70,71,72,73,74,75,76,77,78,79,80,81,82,83,84,85,86,87,88,89,90,91,92,93,94,95,96,97,98,99,100,101,102,103] [[],[0],[1,0],[2,0,1],[],[3,4,0,1,2],[5,0,1,2,3,4],[],[],[8],[9,8],[10,8,9],[],[11,12,8,9,10],[13,8,9,10,11,12],[],[],[16],[17,16],[18,16,17],[],[19,20,16,17,18],[21,16,17,18,19,20],[],[22,23,16,17,18,19,20,21],[24,16,17,18,19,20,21,22,23],[],[26],[27,26],[28,26,27],[],[29,30,26,27,28],[31,26,27,28,29,30],[],[32,33,26,27,28,29,30,31],[34,26,27,28,29,30,31,32,33],[6,7,0,1,2,3,4,5,8,9,10,11,12,13,14,16,17,18,19,20,21,22,23,24,25,26,27,28,29,30,31,32,33,34,35]] [] [15] [] (fun i9 => ([iSv (.pointer (some ⟨gw,0,none⟩)),iSv (.pointer (some ⟨gw,0,none⟩)),iSv (.pointer (some ⟨gw,1,none⟩)),iSv (.slice pH n cH),iSv (.int .i64 (l:Int)),iSv (.pointer (some ⟨gH,(0 + l * 1),none⟩)),iSv (.slice pc n cc),iSv (.int .i64 (i:Int)),iSv (.pointer (some ⟨gw,0,none⟩)),iSv (.pointer (some ⟨gw,0,none⟩)),iSv (.pointer (some ⟨gw,1,none⟩)),iSv (.slice pH n cH),iSv (.int .i64 (l:Int)),iSv (.pointer (some ⟨gH,(0 + l * 1),none⟩)),iSv (.slice pc n cc),iSv (.int .i64 (k:Int)),iSv (.pointer (some ⟨gw,0,none⟩)),iSv (.pointer (some ⟨gw,0,none⟩)),iSv (.pointer (some ⟨gw,1,none⟩)),iSv (.slice pH n cH),iSv (.int .i64 (l:Int)),iSv (.pointer (some ⟨gH,(0 + l * 1),none⟩)),iSv (.slice pc n cc),iSv (.int .i64 (k:Int)),iSv (.pointer (some ⟨gc,k,none⟩)),iSv (.int .u32 ((nd xc k:Nat):Int)),iSv (.pointer (some ⟨gw,0,none⟩)),iSv (.pointer (some ⟨gw,0,none⟩)),iSv (.pointer (some ⟨gw,1,none⟩)),iSv (.slice pH n cH),iSv (.int .i64 (l:Int)),iSv (.pointer (some ⟨gH,(0 + l * 1),none⟩)),iSv (.slice pc n cc),iSv (.int .i64 (i:Int)),iSv (.pointer (some ⟨gc,i,none⟩)),iSv (.int .u32 ((nd xc i:Nat):Int)),iSv (.pointer (some ⟨gc,i,none⟩))]:List (List Value → Tell)).getD i9 (fun _ _ _ => False)) hNi (fun d _ _ _ _ h => (by cases d <;> exact h)) (by kernel_rfl) (by kernel_rfl) (by kernel_rfl) hS ?_ ?_
  ·
   refine stM rfl rfl rfl rfl rfl (fun _=>isI) ?_
   refine stT rfl (fun hT hS=>?_) ?_
   ·obtain ⟨hv0,hr0⟩:=hT 0 67 rfl rfl
    obtain hS:=(hS.flat1 hr0).front1
    exact inNo rfl (oNC (a:=⟨gw,0,none⟩) rfl rfl (ev rfl hv0) (nSm rfl isI))
   refine stT rfl (fun hT hS=>?_) ?_
   ·obtain ⟨hv1,hr1⟩:=hT 1 68 rfl rfl
    obtain hS:=(hS.flat1 hr1).front1
    exact inNo rfl (oFA (g:=gw) (off:=0) 1 rfl rfl (ev rfl hv1) Tryd.runUnderlying59 rfl Tryd.sizeOf23 rfl (nSm rfl isI))
   refine stT rfl (fun hT hS=>?_) ?_
   ·obtain ⟨hv2,hr2⟩:=hT 2 69 rfl rfl
    obtain hS:=(hS.flat1 hr2).front1
    exact inNo rfl (oL1 (v:=.slice pH n cH) ⟨Tryd.isAgg23,Tryd.sizeOf23⟩ hS 2 rfl rfl (ev rfl hv2) rfl rfl (nSm rfl isI))
   refine stM rfl rfl rfl rfl rfl (fun _=>isI) ?_
   refine stT rfl (fun hT hS=>?_) ?_
   ·obtain ⟨hv3,hr3⟩:=hT 3 70 rfl rfl
    obtain ⟨hv4,hr4⟩:=hT 4 71 rfl rfl
    obtain hS:=(hS.flat2 hr3 hr4).front2
    exact inNo rfl (oIx (p:=pH) (g:=gH) (off:=0) (m:=n) (k:=l) (j:=(0 + l * 1)) rfl rfl Tryd.runUnderlying23 Tryd.sizeOf29 (ev rfl hv3) hgH (ev rfl hv4) (by omega) rfl (nSm rfl isI))
   refine stT rfl (fun hT hS=>?_) ?_
   ·obtain ⟨hv5,hr5⟩:=hT 5 72 rfl rfl
    obtain hS:=(hS.flat1 hr5).front1
    exact inNo rfl (oLc (v:=.slice pc n cc) ⟨Tryd.isAgg29,Tryd.sizeOf29⟩ rfl rfl (ev (v:=.pointer (some ⟨gH,(0 + l * 1),none⟩)) rfl hv5) (hS.mRow 1 rfl hqc hnc hgH) (nSm rfl isI))
   refine stM rfl rfl rfl rfl rfl (fun _=>isI) ?_
   refine stM rfl rfl rfl rfl rfl (fun _=>isI) ?_
   refine stT rfl (fun hT hS=>?_) ?_
   ·obtain ⟨hv8,hr8⟩:=hT 8 75 rfl rfl
    obtain hS:=(hS.flat1 hr8).front1
    exact inNo rfl (oNC (a:=⟨gw,0,none⟩) rfl rfl (ev rfl hv8) (nSm rfl isI))
   refine stT rfl (fun hT hS=>?_) ?_
   ·obtain ⟨hv9,hr9⟩:=hT 9 76 rfl rfl
    obtain hS:=(hS.flat1 hr9).front1
    exact inNo rfl (oFA (g:=gw) (off:=0) 1 rfl rfl (ev rfl hv9) Tryd.runUnderlying59 rfl Tryd.sizeOf23 rfl (nSm rfl isI))
   refine stT rfl (fun hT hS=>?_) ?_
   ·obtain ⟨hv10,hr10⟩:=hT 10 77 rfl rfl
    obtain hS:=(hS.flat1 hr10).front1
    exact inNo rfl (oL1 (v:=.slice pH n cH) ⟨Tryd.isAgg23,Tryd.sizeOf23⟩ hS 2 rfl rfl (ev rfl hv10) rfl rfl (nSm rfl isI))
   refine stM rfl rfl rfl rfl rfl (fun _=>isI) ?_
   refine stT rfl (fun hT hS=>?_) ?_
   ·obtain ⟨hv11,hr11⟩:=hT 11 78 rfl rfl
    obtain ⟨hv12,hr12⟩:=hT 12 79 rfl rfl
    obtain hS:=(hS.flat2 hr11 hr12).front2
    exact inNo rfl (oIx (p:=pH) (g:=gH) (off:=0) (m:=n) (k:=l) (j:=(0 + l * 1)) rfl rfl Tryd.runUnderlying23 Tryd.sizeOf29 (ev rfl hv11) hgH (ev rfl hv12) (by omega) rfl (nSm rfl isI))
   refine stT rfl (fun hT hS=>?_) ?_
   ·obtain ⟨hv13,hr13⟩:=hT 13 80 rfl rfl
    obtain hS:=(hS.flat1 hr13).front1
    exact inNo rfl (oLc (v:=.slice pc n cc) ⟨Tryd.isAgg29,Tryd.sizeOf29⟩ rfl rfl (ev (v:=.pointer (some ⟨gH,(0 + l * 1),none⟩)) rfl hv13) (hS.mRow 1 rfl hqc hnc hgH) (nSm rfl isI))
   refine stepsPure rfl ?_ ?_
   ·intro f' ρ ho hT
    exact ⟨_,.inl ⟨wNo rfl,fun w hw => ymove (v:=.int .i64 (k:Int)) rfl (ev (v:=.int .i64 (k:Int)) rfl (ho 2 rfl)) w⟩,isI⟩
   refine stM rfl rfl rfl rfl rfl (fun _=>isI) ?_
   refine stT rfl (fun hT hS=>?_) ?_
   ·obtain ⟨hv16,hr16⟩:=hT 16 83 rfl rfl
    obtain hS:=(hS.flat1 hr16).front1
    exact inNo rfl (oNC (a:=⟨gw,0,none⟩) rfl rfl (ev rfl hv16) (nSm rfl isI))
   refine stT rfl (fun hT hS=>?_) ?_
   ·obtain ⟨hv17,hr17⟩:=hT 17 84 rfl rfl
    obtain hS:=(hS.flat1 hr17).front1
    exact inNo rfl (oFA (g:=gw) (off:=0) 1 rfl rfl (ev rfl hv17) Tryd.runUnderlying59 rfl Tryd.sizeOf23 rfl (nSm rfl isI))
   refine stT rfl (fun hT hS=>?_) ?_
   ·obtain ⟨hv18,hr18⟩:=hT 18 85 rfl rfl
    obtain hS:=(hS.flat1 hr18).front1
    exact inNo rfl (oL1 (v:=.slice pH n cH) ⟨Tryd.isAgg23,Tryd.sizeOf23⟩ hS 2 rfl rfl (ev rfl hv18) rfl rfl (nSm rfl isI))
   refine stM rfl rfl rfl rfl rfl (fun _=>isI) ?_
   refine stT rfl (fun hT hS=>?_) ?_
   ·obtain ⟨hv19,hr19⟩:=hT 19 86 rfl rfl
    obtain ⟨hv20,hr20⟩:=hT 20 87 rfl rfl
    obtain hS:=(hS.flat2 hr19 hr20).front2
    exact inNo rfl (oIx (p:=pH) (g:=gH) (off:=0) (m:=n) (k:=l) (j:=(0 + l * 1)) rfl rfl Tryd.runUnderlying23 Tryd.sizeOf29 (ev rfl hv19) hgH (ev rfl hv20) (by omega) rfl (nSm rfl isI))
   refine stT rfl (fun hT hS=>?_) ?_
   ·obtain ⟨hv21,hr21⟩:=hT 21 88 rfl rfl
    obtain hS:=(hS.flat1 hr21).front1
    exact inNo rfl (oLc (v:=.slice pc n cc) ⟨Tryd.isAgg29,Tryd.sizeOf29⟩ rfl rfl (ev (v:=.pointer (some ⟨gH,(0 + l * 1),none⟩)) rfl hv21) (hS.mRow 1 rfl hqc hnc hgH) (nSm rfl isI))
   refine stM rfl rfl rfl rfl rfl (fun _=>isI) ?_
   refine stT rfl (fun hT hS=>?_) ?_
   ·obtain ⟨hv22,hr22⟩:=hT 22 89 rfl rfl
    obtain ⟨hv23,hr23⟩:=hT 23 90 rfl rfl
    obtain hS:=(hS.flat2 hr22 hr23).front2
    exact inNo rfl (oIx (p:=pc) (g:=gc) (off:=0) (m:=n) (k:=k) (j:=k) rfl rfl Tryd.runUnderlying29 Tryd.sizeOf24 (ev rfl hv22) hgc (ev rfl hv23) (by omega) (by simp) (nSm rfl isI))
   refine stT rfl (fun hT hS=>?_) ?_
   ·obtain ⟨hv24,hr24⟩:=hT 24 91 rfl rfl
    obtain hS:=(hS.flat1 hr24).front1
    exact inNo rfl (oLc (v:=.int .u32 ((nd xc k:Nat):Int)) one32 rfl rfl (ev (v:=.pointer (some ⟨gc,k,none⟩)) rfl hv24) (hS.mCell 1 rfl hqc hgc (by omega)) (nSm rfl isI))
   refine stM rfl rfl rfl rfl rfl (fun _=>isI) ?_
   refine stT rfl (fun hT hS=>?_) ?_
   ·obtain ⟨hv26,hr26⟩:=hT 26 93 rfl rfl
    obtain hS:=(hS.flat1 hr26).front1
    exact inNo rfl (oNC (a:=⟨gw,0,none⟩) rfl rfl (ev rfl hv26) (nSm rfl isI))
   refine stT rfl (fun hT hS=>?_) ?_
   ·obtain ⟨hv27,hr27⟩:=hT 27 94 rfl rfl
    obtain hS:=(hS.flat1 hr27).front1
    exact inNo rfl (oFA (g:=gw) (off:=0) 1 rfl rfl (ev rfl hv27) Tryd.runUnderlying59 rfl Tryd.sizeOf23 rfl (nSm rfl isI))
   refine stT rfl (fun hT hS=>?_) ?_
   ·obtain ⟨hv28,hr28⟩:=hT 28 95 rfl rfl
    obtain hS:=(hS.flat1 hr28).front1
    exact inNo rfl (oL1 (v:=.slice pH n cH) ⟨Tryd.isAgg23,Tryd.sizeOf23⟩ hS 2 rfl rfl (ev rfl hv28) rfl rfl (nSm rfl isI))
   refine stM rfl rfl rfl rfl rfl (fun _=>isI) ?_
   refine stT rfl (fun hT hS=>?_) ?_
   ·obtain ⟨hv29,hr29⟩:=hT 29 96 rfl rfl
    obtain ⟨hv30,hr30⟩:=hT 30 97 rfl rfl
    obtain hS:=(hS.flat2 hr29 hr30).front2
    exact inNo rfl (oIx (p:=pH) (g:=gH) (off:=0) (m:=n) (k:=l) (j:=(0 + l * 1)) rfl rfl Tryd.runUnderlying23 Tryd.sizeOf29 (ev rfl hv29) hgH (ev rfl hv30) (by omega) rfl (nSm rfl isI))
   refine stT rfl (fun hT hS=>?_) ?_
   ·obtain ⟨hv31,hr31⟩:=hT 31 98 rfl rfl
    obtain hS:=(hS.flat1 hr31).front1
    exact inNo rfl (oLc (v:=.slice pc n cc) ⟨Tryd.isAgg29,Tryd.sizeOf29⟩ rfl rfl (ev (v:=.pointer (some ⟨gH,(0 + l * 1),none⟩)) rfl hv31) (hS.mRow 1 rfl hqc hnc hgH) (nSm rfl isI))
   refine stM rfl rfl rfl rfl rfl (fun _=>isI) ?_
   refine stT rfl (fun hT hS=>?_) ?_
   ·obtain ⟨hv32,hr32⟩:=hT 32 99 rfl rfl
    obtain ⟨hv33,hr33⟩:=hT 33 100 rfl rfl
    obtain hS:=(hS.flat2 hr32 hr33).front2
    exact inNo rfl (oIx (p:=pc) (g:=gc) (off:=0) (m:=n) (k:=i) (j:=i) rfl rfl Tryd.runUnderlying29 Tryd.sizeOf24 (ev rfl hv32) hgc (ev rfl hv33) (by omega) (by simp) (nSm rfl isI))
   refine stT rfl (fun hT hS=>?_) ?_
   ·obtain ⟨hv34,hr34⟩:=hT 34 101 rfl rfl
    obtain hS:=(hS.flat1 hr34).front1
    exact inNo rfl (oLc (v:=.int .u32 ((nd xc i:Nat):Int)) one32 rfl rfl (ev (v:=.pointer (some ⟨gc,i,none⟩)) rfl hv34) (hS.mCell 1 rfl hqc hgc (by omega)) (nSm rfl isI))
   refine stT rfl (fun hT hS=>?_) ?_
   ·obtain ⟨hv6,hr6⟩:=hT 6 73 rfl rfl
    obtain ⟨hv7,hr7⟩:=hT 7 74 rfl rfl
    obtain hS:=(hS.flat2 hr6 hr7).front2
    exact inNo rfl (oIx (p:=pc) (g:=gc) (off:=0) (m:=n) (k:=i) (j:=i) rfl rfl Tryd.runUnderlying29 Tryd.sizeOf24 (ev rfl hv6) hgc (ev rfl hv7) (by omega) (by simp) (nSm rfl isI))
   exact sNi
  intro vs ρ w8 f' hf hT hS
  obtain ⟨hv0,hr0⟩:=hT 0 (by decide)
  obtain ⟨hv1,hr1⟩:=hT 1 (by decide)
  obtain ⟨hv2,hr2⟩:=hT 2 (by decide)
  obtain ⟨hv3,hr3⟩:=hT 3 (by decide)
  obtain ⟨hv4,hr4⟩:=hT 4 (by decide)
  obtain ⟨hv5,hr5⟩:=hT 5 (by decide)
  obtain ⟨hv6,hr6⟩:=hT 6 (by decide)
  obtain ⟨hv7,hr7⟩:=hT 7 (by decide)
  obtain ⟨hv8,hr8⟩:=hT 8 (by decide)
  obtain ⟨hv9,hr9⟩:=hT 9 (by decide)
  obtain ⟨hv10,hr10⟩:=hT 10 (by decide)
  obtain ⟨hv11,hr11⟩:=hT 11 (by decide)
  obtain ⟨hv12,hr12⟩:=hT 12 (by decide)
  obtain ⟨hv13,hr13⟩:=hT 13 (by decide)
  obtain ⟨hv14,hr14⟩:=hT 14 (by decide)
  obtain ⟨hv15,hr15⟩:=hT 15 (by decide)
  obtain ⟨hv16,hr16⟩:=hT 16 (by decide)
  obtain ⟨hv17,hr17⟩:=hT 17 (by decide)
  obtain ⟨hv18,hr18⟩:=hT 18 (by decide)
  obtain ⟨hv19,hr19⟩:=hT 19 (by decide)
  obtain ⟨hv20,hr20⟩:=hT 20 (by decide)
  obtain ⟨hv21,hr21⟩:=hT 21 (by decide)
  obtain ⟨hv22,hr22⟩:=hT 22 (by decide)
  obtain ⟨hv23,hr23⟩:=hT 23 (by decide)
  obtain ⟨hv24,hr24⟩:=hT 24 (by decide)
  obtain ⟨hv25,hr25⟩:=hT 25 (by decide)
  obtain ⟨hv26,hr26⟩:=hT 26 (by decide)
  obtain ⟨hv27,hr27⟩:=hT 27 (by decide)
  obtain ⟨hv28,hr28⟩:=hT 28 (by decide)
  obtain ⟨hv29,hr29⟩:=hT 29 (by decide)
  obtain ⟨hv30,hr30⟩:=hT 30 (by decide)
  obtain ⟨hv31,hr31⟩:=hT 31 (by decide)
  obtain ⟨hv32,hr32⟩:=hT 32 (by decide)
  obtain ⟨hv33,hr33⟩:=hT 33 (by decide)
  obtain ⟨hv34,hr34⟩:=hT 34 (by decide)
  obtain ⟨hv35,hr35⟩:=hT 35 (by decide)
  obtain ⟨hv36,hr36⟩:=hT 36 (by decide)
  simp only [pool,if_true,hr0,hr1,hr2,hr3,hr4,hr5,hr6,hr7,hr8,hr9,hr10,hr11,hr12,hr13,hr14,hr15,hr16,hr17,hr18,hr19,hr20,hr21,hr22,hr23,hr24,hr25,hr26,hr27,hr28,hr29,hr30,hr31,hr32,hr33,hr34,hr35,hr36,List.nil_append,List.cons_append,List.append_nil] at hS
  simp only [layf,hv0,hv1,hv2,hv3,hv4,hv5,hv6,hv7,hv8,hv9,hv10,hv11,hv12,hv13,hv14,hv15,hv16,hv17,hv18,hv19,hv20,hv21,hv22,hv23,hv24,hv25,hv26,hv27,hv28,hv29,hv30,hv31,hv32,hv33,hv34,hv35,hv36] at hf
  subst hf; clear hT hv0 hv1 hv2 hv3 hv4 hv5 hv6 hv7 hv8 hv9 hv10 hv11 hv12 hv13 hv14 hv15 hv16 hv17 hv18 hv19 hv20 hv21 hv22 hv23 hv24 hv25 hv26 hv27 hv28 hv29 hv30 hv31 hv32 hv33 hv34 hv35 hv36 hr0 hr1 hr2 hr3 hr4 hr5 hr6 hr7 hr8 hr9 hr10 hr11 hr12 hr13 hr14 hr15 hr16 hr17 hr18 hr19 hr20 hr21 hr22 hr23 hr24 hr25 hr26 hr27 hr28 hr29 hr30 hr31 hr32 hr33 hr34 hr35 hr36
  obtain hS:=(show Sep w0 (.lst 29 1 pH n cH (mmE GH) :: .lst 29 1 pR n cR (mmE ((QR.set i ⟨pv,cv,xv⟩).set k ⟨pu,cu,xu⟩)) :: .blk gw [.int .u64 (((p:Nat):Int)),.slice pH n cH,.slice pS n cS,.slice pR n cR] 59 :: .lst 29 1 pS n cS (mmE GS) :: R) w8 from Sep.pickT [.lst 29 1 pR n cR (mmE ((QR.set i ⟨pv,cv,xv⟩).set k ⟨pu,cu,xu⟩)),.lst 29 1 pH n cH (mmE GH),.blk gw [.int .u64 (((p:Nat):Int)),.slice pH n cH,.slice pS n cS,.slice pR n cR] 59,.lst 29 1 pS n cS (mmE GS)] [.lst 29 1 pH n cH (mmE GH),.lst 29 1 pR n cR (mmE ((QR.set i ⟨pv,cv,xv⟩).set k ⟨pu,cu,xu⟩)),.blk gw [.int .u64 (((p:Nat):Int)),.slice pH n cH,.slice pS n cS,.slice pR n cR] 59,.lst 29 1 pS n cS (mmE GS)] hS [1,0,2,3] (by decide) rfl)
  refine wLt 37 rfl (by kernel_rfl) (ostoreM (i:=l) (g:=gc) (k:=i) (u:=(nd xc k)) Tryd.sizeOf24 hS rfl rfl (ev (v:=.pointer (some ⟨gc,i,none⟩)) rfl rfl) (ev (v:=.int .u32 ((nd xc k:Nat):Int)) rfl rfl) hqc hgc (show i < List.length xc by omega) (by omega) ?_)
  clear hS; intro w9 hS
  refine ⟨hNi,?_⟩
  refine wLt 38 rfl (by kernel_rfl) (oIx (p:=pc) (g:=gc) (off:=0) (m:=n) (k:=k) (j:=k) rfl rfl Tryd.runUnderlying29 Tryd.sizeOf24 (ev rfl rfl) hgc (ev rfl rfl) (by omega) (by simp) ?_)
  refine ⟨hNi,?_⟩
  refine wLt 39 rfl (by kernel_rfl) (ostoreM (i:=l) (g:=gc) (k:=k) (u:=(nd xc i)) Tryd.sizeOf24 hS rfl rfl (ev (v:=.pointer (some ⟨gc,k,none⟩)) rfl rfl) (ev (v:=.int .u32 ((nd xc i:Nat):Int)) rfl rfl) (qset_self hqc) hgc (show k < List.length ((xc.set i (nd xc k))) by omega) (by omega) ?_)
  clear hS; intro w10 hS
  refine ⟨hNi,?_⟩
  refine wdone rfl ?_
  refine tNo ?_
  refine wSg 37 [105,106,107,108,109,110,111,112,113,114,115,116,117,118,119,120,121,122,123,124,125,126,127,128,129,130,131,132,133,134,135,136,137,138,139,140,141] [[],[0],[1,0],[2,0,1],[],[3,4,0,1,2],[5,0,1,2,3,4],[],[],[8],[9,8],[10,8,9],[],[11,12,8,9,10],[13,8,9,10,11,12],[],[],[16],[17,16],[18,16,17],[],[19,20,16,17,18],[21,16,17,18,19,20],[],[22,23,16,17,18,19,20,21],[24,16,17,18,19,20,21,22,23],[],[26],[27,26],[28,26,27],[],[29,30,26,27,28],[31,26,27,28,29,30],[],[32,33,26,27,28,29,30,31],[34,26,27,28,29,30,31,32,33],[6,7,0,1,2,3,4,5,8,9,10,11,12,13,14,16,17,18,19,20,21,22,23,24,25,26,27,28,29,30,31,32,33,34,35]] [] [15] [] (fun i9 => ([iSv (.pointer (some ⟨gw,0,none⟩)),iSv (.pointer (some ⟨gw,0,none⟩)),iSv (.pointer (some ⟨gw,2,none⟩)),iSv (.slice pS n cS),iSv (.int .i64 (l:Int)),iSv (.pointer (some ⟨gS,(0 + l * 1),none⟩)),iSv (.slice pd n cd),iSv (.int .i64 (i:Int)),iSv (.pointer (some ⟨gw,0,none⟩)),iSv (.pointer (some ⟨gw,0,none⟩)),iSv (.pointer (some ⟨gw,2,none⟩)),iSv (.slice pS n cS),iSv (.int .i64 (l:Int)),iSv (.pointer (some ⟨gS,(0 + l * 1),none⟩)),iSv (.slice pd n cd),iSv (.int .i64 (k:Int)),iSv (.pointer (some ⟨gw,0,none⟩)),iSv (.pointer (some ⟨gw,0,none⟩)),iSv (.pointer (some ⟨gw,2,none⟩)),iSv (.slice pS n cS),iSv (.int .i64 (l:Int)),iSv (.pointer (some ⟨gS,(0 + l * 1),none⟩)),iSv (.slice pd n cd),iSv (.int .i64 (k:Int)),iSv (.pointer (some ⟨gd,k,none⟩)),iSv (.int .u32 ((nd xd k:Nat):Int)),iSv (.pointer (some ⟨gw,0,none⟩)),iSv (.pointer (some ⟨gw,0,none⟩)),iSv (.pointer (some ⟨gw,2,none⟩)),iSv (.slice pS n cS),iSv (.int .i64 (l:Int)),iSv (.pointer (some ⟨gS,(0 + l * 1),none⟩)),iSv (.slice pd n cd),iSv (.int .i64 (i:Int)),iSv (.pointer (some ⟨gd,i,none⟩)),iSv (.int .u32 ((nd xd i:Nat):Int)),iSv (.pointer (some ⟨gd,i,none⟩))]:List (List Value → Tell)).getD i9 (fun _ _ _ => False)) hNi (fun d _ _ _ _ h => (by cases d <;> exact h)) (by kernel_rfl) (by kernel_rfl) (by kernel_rfl) hS ?_ ?_
  ·
   refine stM rfl rfl rfl rfl rfl (fun _=>isI) ?_
   refine stT rfl (fun hT hS=>?_) ?_
   ·obtain ⟨hv0,hr0⟩:=hT 0 105 rfl rfl
    obtain hS:=(hS.flat1 hr0).front1
    exact inNo rfl (oNC (a:=⟨gw,0,none⟩) rfl rfl (ev rfl hv0) (nSm rfl isI))
   refine stT rfl (fun hT hS=>?_) ?_
   ·obtain ⟨hv1,hr1⟩:=hT 1 106 rfl rfl
    obtain hS:=(hS.flat1 hr1).front1
    exact inNo rfl (oFA (g:=gw) (off:=0) 2 rfl rfl (ev rfl hv1) Tryd.runUnderlying59 rfl Tryd.sizeOf23 rfl (nSm rfl isI))
   refine stT rfl (fun hT hS=>?_) ?_
   ·obtain ⟨hv2,hr2⟩:=hT 2 107 rfl rfl
    obtain hS:=(hS.flat1 hr2).front1
    exact inNo rfl (oL1 (v:=.slice pS n cS) ⟨Tryd.isAgg23,Tryd.sizeOf23⟩ hS 2 rfl rfl (ev rfl hv2) rfl rfl (nSm rfl isI))
   refine stM rfl rfl rfl rfl rfl (fun _=>isI) ?_
   refine stT rfl (fun hT hS=>?_) ?_
   ·obtain ⟨hv3,hr3⟩:=hT 3 108 rfl rfl
    obtain ⟨hv4,hr4⟩:=hT 4 109 rfl rfl
    obtain hS:=(hS.flat2 hr3 hr4).front2
    exact inNo rfl (oIx (p:=pS) (g:=gS) (off:=0) (m:=n) (k:=l) (j:=(0 + l * 1)) rfl rfl Tryd.runUnderlying23 Tryd.sizeOf29 (ev rfl hv3) hgS (ev rfl hv4) (by omega) rfl (nSm rfl isI))
   refine stT rfl (fun hT hS=>?_) ?_
   ·obtain ⟨hv5,hr5⟩:=hT 5 110 rfl rfl
    obtain hS:=(hS.flat1 hr5).front1
    exact inNo rfl (oLc (v:=.slice pd n cd) ⟨Tryd.isAgg29,Tryd.sizeOf29⟩ rfl rfl (ev (v:=.pointer (some ⟨gS,(0 + l * 1),none⟩)) rfl hv5) (hS.mRow 3 rfl hqd hnd hgS) (nSm rfl isI))
   refine stM rfl rfl rfl rfl rfl (fun _=>isI) ?_
   refine stM rfl rfl rfl rfl rfl (fun _=>isI) ?_
   refine stT rfl (fun hT hS=>?_) ?_
   ·obtain ⟨hv8,hr8⟩:=hT 8 113 rfl rfl
    obtain hS:=(hS.flat1 hr8).front1
    exact inNo rfl (oNC (a:=⟨gw,0,none⟩) rfl rfl (ev rfl hv8) (nSm rfl isI))
   refine stT rfl (fun hT hS=>?_) ?_
   ·obtain ⟨hv9,hr9⟩:=hT 9 114 rfl rfl
    obtain hS:=(hS.flat1 hr9).front1
    exact inNo rfl (oFA (g:=gw) (off:=0) 2 rfl rfl (ev rfl hv9) Tryd.runUnderlying59 rfl Tryd.sizeOf23 rfl (nSm rfl isI))
   refine stT rfl (fun hT hS=>?_) ?_
   ·obtain ⟨hv10,hr10⟩:=hT 10 115 rfl rfl
    obtain hS:=(hS.flat1 hr10).front1
    exact inNo rfl (oL1 (v:=.slice pS n cS) ⟨Tryd.isAgg23,Tryd.sizeOf23⟩ hS 2 rfl rfl (ev rfl hv10) rfl rfl (nSm rfl isI))
   refine stM rfl rfl rfl rfl rfl (fun _=>isI) ?_
   refine stT rfl (fun hT hS=>?_) ?_
   ·obtain ⟨hv11,hr11⟩:=hT 11 116 rfl rfl
    obtain ⟨hv12,hr12⟩:=hT 12 117 rfl rfl
    obtain hS:=(hS.flat2 hr11 hr12).front2
    exact inNo rfl (oIx (p:=pS) (g:=gS) (off:=0) (m:=n) (k:=l) (j:=(0 + l * 1)) rfl rfl Tryd.runUnderlying23 Tryd.sizeOf29 (ev rfl hv11) hgS (ev rfl hv12) (by omega) rfl (nSm rfl isI))
   refine stT rfl (fun hT hS=>?_) ?_
   ·obtain ⟨hv13,hr13⟩:=hT 13 118 rfl rfl
    obtain hS:=(hS.flat1 hr13).front1
    exact inNo rfl (oLc (v:=.slice pd n cd) ⟨Tryd.isAgg29,Tryd.sizeOf29⟩ rfl rfl (ev (v:=.pointer (some ⟨gS,(0 + l * 1),none⟩)) rfl hv13) (hS.mRow 3 rfl hqd hnd hgS) (nSm rfl isI))
   refine stepsPure rfl ?_ ?_
   ·intro f' ρ ho hT
    exact ⟨_,.inl ⟨wNo rfl,fun w hw => ymove (v:=.int .i64 (k:Int)) rfl (ev (v:=.int .i64 (k:Int)) rfl (ho 2 rfl)) w⟩,isI⟩
   refine stM rfl rfl rfl rfl rfl (fun _=>isI) ?_
   refine stT rfl (fun hT hS=>?_) ?_
   ·obtain ⟨hv16,hr16⟩:=hT 16 121 rfl rfl
    obtain hS:=(hS.flat1 hr16).front1
    exact inNo rfl (oNC (a:=⟨gw,0,none⟩) rfl rfl (ev rfl hv16) (nSm rfl isI))
   refine stT rfl (fun hT hS=>?_) ?_
   ·obtain ⟨hv17,hr17⟩:=hT 17 122 rfl rfl
    obtain hS:=(hS.flat1 hr17).front1
    exact inNo rfl (oFA (g:=gw) (off:=0) 2 rfl rfl (ev rfl hv17) Tryd.runUnderlying59 rfl Tryd.sizeOf23 rfl (nSm rfl isI))
   refine stT rfl (fun hT hS=>?_) ?_
   ·obtain ⟨hv18,hr18⟩:=hT 18 123 rfl rfl
    obtain hS:=(hS.flat1 hr18).front1
    exact inNo rfl (oL1 (v:=.slice pS n cS) ⟨Tryd.isAgg23,Tryd.sizeOf23⟩ hS 2 rfl rfl (ev rfl hv18) rfl rfl (nSm rfl isI))
   refine stM rfl rfl rfl rfl rfl (fun _=>isI) ?_
   refine stT rfl (fun hT hS=>?_) ?_
   ·obtain ⟨hv19,hr19⟩:=hT 19 124 rfl rfl
    obtain ⟨hv20,hr20⟩:=hT 20 125 rfl rfl
    obtain hS:=(hS.flat2 hr19 hr20).front2
    exact inNo rfl (oIx (p:=pS) (g:=gS) (off:=0) (m:=n) (k:=l) (j:=(0 + l * 1)) rfl rfl Tryd.runUnderlying23 Tryd.sizeOf29 (ev rfl hv19) hgS (ev rfl hv20) (by omega) rfl (nSm rfl isI))
   refine stT rfl (fun hT hS=>?_) ?_
   ·obtain ⟨hv21,hr21⟩:=hT 21 126 rfl rfl
    obtain hS:=(hS.flat1 hr21).front1
    exact inNo rfl (oLc (v:=.slice pd n cd) ⟨Tryd.isAgg29,Tryd.sizeOf29⟩ rfl rfl (ev (v:=.pointer (some ⟨gS,(0 + l * 1),none⟩)) rfl hv21) (hS.mRow 3 rfl hqd hnd hgS) (nSm rfl isI))
   refine stM rfl rfl rfl rfl rfl (fun _=>isI) ?_
   refine stT rfl (fun hT hS=>?_) ?_
   ·obtain ⟨hv22,hr22⟩:=hT 22 127 rfl rfl
    obtain ⟨hv23,hr23⟩:=hT 23 128 rfl rfl
    obtain hS:=(hS.flat2 hr22 hr23).front2
    exact inNo rfl (oIx (p:=pd) (g:=gd) (off:=0) (m:=n) (k:=k) (j:=k) rfl rfl Tryd.runUnderlying29 Tryd.sizeOf24 (ev rfl hv22) hgd (ev rfl hv23) (by omega) (by simp) (nSm rfl isI))
   refine stT rfl (fun hT hS=>?_) ?_
   ·obtain ⟨hv24,hr24⟩:=hT 24 129 rfl rfl
    obtain hS:=(hS.flat1 hr24).front1
    exact inNo rfl (oLc (v:=.int .u32 ((nd xd k:Nat):Int)) one32 rfl rfl (ev (v:=.pointer (some ⟨gd,k,none⟩)) rfl hv24) (hS.mCell 3 rfl hqd hgd (by omega)) (nSm rfl isI))
   refine stM rfl rfl rfl rfl rfl (fun _=>isI) ?_
   refine stT rfl (fun hT hS=>?_) ?_
   ·obtain ⟨hv26,hr26⟩:=hT 26 131 rfl rfl
    obtain hS:=(hS.flat1 hr26).front1
    exact inNo rfl (oNC (a:=⟨gw,0,none⟩) rfl rfl (ev rfl hv26) (nSm rfl isI))
   refine stT rfl (fun hT hS=>?_) ?_
   ·obtain ⟨hv27,hr27⟩:=hT 27 132 rfl rfl
    obtain hS:=(hS.flat1 hr27).front1
    exact inNo rfl (oFA (g:=gw) (off:=0) 2 rfl rfl (ev rfl hv27) Tryd.runUnderlying59 rfl Tryd.sizeOf23 rfl (nSm rfl isI))
   refine stT rfl (fun hT hS=>?_) ?_
   ·obtain ⟨hv28,hr28⟩:=hT 28 133 rfl rfl
    obtain hS:=(hS.flat1 hr28).front1
    exact inNo rfl (oL1 (v:=.slice pS n cS) ⟨Tryd.isAgg23,Tryd.sizeOf23⟩ hS 2 rfl rfl (ev rfl hv28) rfl rfl (nSm rfl isI))
   refine stM rfl rfl rfl rfl rfl (fun _=>isI) ?_
   refine stT rfl (fun hT hS=>?_) ?_
   ·obtain ⟨hv29,hr29⟩:=hT 29 134 rfl rfl
    obtain ⟨hv30,hr30⟩:=hT 30 135 rfl rfl
    obtain hS:=(hS.flat2 hr29 hr30).front2
    exact inNo rfl (oIx (p:=pS) (g:=gS) (off:=0) (m:=n) (k:=l) (j:=(0 + l * 1)) rfl rfl Tryd.runUnderlying23 Tryd.sizeOf29 (ev rfl hv29) hgS (ev rfl hv30) (by omega) rfl (nSm rfl isI))
   refine stT rfl (fun hT hS=>?_) ?_
   ·obtain ⟨hv31,hr31⟩:=hT 31 136 rfl rfl
    obtain hS:=(hS.flat1 hr31).front1
    exact inNo rfl (oLc (v:=.slice pd n cd) ⟨Tryd.isAgg29,Tryd.sizeOf29⟩ rfl rfl (ev (v:=.pointer (some ⟨gS,(0 + l * 1),none⟩)) rfl hv31) (hS.mRow 3 rfl hqd hnd hgS) (nSm rfl isI))
   refine stM rfl rfl rfl rfl rfl (fun _=>isI) ?_
   refine stT rfl (fun hT hS=>?_) ?_
   ·obtain ⟨hv32,hr32⟩:=hT 32 137 rfl rfl
    obtain ⟨hv33,hr33⟩:=hT 33 138 rfl rfl
    obtain hS:=(hS.flat2 hr32 hr33).front2
    exact inNo rfl (oIx (p:=pd) (g:=gd) (off:=0) (m:=n) (k:=i) (j:=i) rfl rfl Tryd.runUnderlying29 Tryd.sizeOf24 (ev rfl hv32) hgd (ev rfl hv33) (by omega) (by simp) (nSm rfl isI))
   refine stT rfl (fun hT hS=>?_) ?_
   ·obtain ⟨hv34,hr34⟩:=hT 34 139 rfl rfl
    obtain hS:=(hS.flat1 hr34).front1
    exact inNo rfl (oLc (v:=.int .u32 ((nd xd i:Nat):Int)) one32 rfl rfl (ev (v:=.pointer (some ⟨gd,i,none⟩)) rfl hv34) (hS.mCell 3 rfl hqd hgd (by omega)) (nSm rfl isI))
   refine stT rfl (fun hT hS=>?_) ?_
   ·obtain ⟨hv6,hr6⟩:=hT 6 111 rfl rfl
    obtain ⟨hv7,hr7⟩:=hT 7 112 rfl rfl
    obtain hS:=(hS.flat2 hr6 hr7).front2
    exact inNo rfl (oIx (p:=pd) (g:=gd) (off:=0) (m:=n) (k:=i) (j:=i) rfl rfl Tryd.runUnderlying29 Tryd.sizeOf24 (ev rfl hv6) hgd (ev rfl hv7) (by omega) (by simp) (nSm rfl isI))
   exact sNi
  intro vs ρ w11 f' hf hT hS
  obtain ⟨hv0,hr0⟩:=hT 0 (by decide)
  obtain ⟨hv1,hr1⟩:=hT 1 (by decide)
  obtain ⟨hv2,hr2⟩:=hT 2 (by decide)
  obtain ⟨hv3,hr3⟩:=hT 3 (by decide)
  obtain ⟨hv4,hr4⟩:=hT 4 (by decide)
  obtain ⟨hv5,hr5⟩:=hT 5 (by decide)
  obtain ⟨hv6,hr6⟩:=hT 6 (by decide)
  obtain ⟨hv7,hr7⟩:=hT 7 (by decide)
  obtain ⟨hv8,hr8⟩:=hT 8 (by decide)
  obtain ⟨hv9,hr9⟩:=hT 9 (by decide)
  obtain ⟨hv10,hr10⟩:=hT 10 (by decide)
  obtain ⟨hv11,hr11⟩:=hT 11 (by decide)
  obtain ⟨hv12,hr12⟩:=hT 12 (by decide)
  obtain ⟨hv13,hr13⟩:=hT 13 (by decide)
  obtain ⟨hv14,hr14⟩:=hT 14 (by decide)
  obtain ⟨hv15,hr15⟩:=hT 15 (by decide)
  obtain ⟨hv16,hr16⟩:=hT 16 (by decide)
  obtain ⟨hv17,hr17⟩:=hT 17 (by decide)
  obtain ⟨hv18,hr18⟩:=hT 18 (by decide)
  obtain ⟨hv19,hr19⟩:=hT 19 (by decide)
  obtain ⟨hv20,hr20⟩:=hT 20 (by decide)
  obtain ⟨hv21,hr21⟩:=hT 21 (by decide)
  obtain ⟨hv22,hr22⟩:=hT 22 (by decide)
  obtain ⟨hv23,hr23⟩:=hT 23 (by decide)
  obtain ⟨hv24,hr24⟩:=hT 24 (by decide)
  obtain ⟨hv25,hr25⟩:=hT 25 (by decide)
  obtain ⟨hv26,hr26⟩:=hT 26 (by decide)
  obtain ⟨hv27,hr27⟩:=hT 27 (by decide)
  obtain ⟨hv28,hr28⟩:=hT 28 (by decide)
  obtain ⟨hv29,hr29⟩:=hT 29 (by decide)
  obtain ⟨hv30,hr30⟩:=hT 30 (by decide)
  obtain ⟨hv31,hr31⟩:=hT 31 (by decide)
  obtain ⟨hv32,hr32⟩:=hT 32 (by decide)
  obtain ⟨hv33,hr33⟩:=hT 33 (by decide)
  obtain ⟨hv34,hr34⟩:=hT 34 (by decide)
  obtain ⟨hv35,hr35⟩:=hT 35 (by decide)
  obtain ⟨hv36,hr36⟩:=hT 36 (by decide)
  simp only [pool,if_true,hr0,hr1,hr2,hr3,hr4,hr5,hr6,hr7,hr8,hr9,hr10,hr11,hr12,hr13,hr14,hr15,hr16,hr17,hr18,hr19,hr20,hr21,hr22,hr23,hr24,hr25,hr26,hr27,hr28,hr29,hr30,hr31,hr32,hr33,hr34,hr35,hr36,List.nil_append,List.cons_append,List.append_nil] at hS
  simp only [layf,hv0,hv1,hv2,hv3,hv4,hv5,hv6,hv7,hv8,hv9,hv10,hv11,hv12,hv13,hv14,hv15,hv16,hv17,hv18,hv19,hv20,hv21,hv22,hv23,hv24,hv25,hv26,hv27,hv28,hv29,hv30,hv31,hv32,hv33,hv34,hv35,hv36] at hf
  subst hf; clear hT hv0 hv1 hv2 hv3 hv4 hv5 hv6 hv7 hv8 hv9 hv10 hv11 hv12 hv13 hv14 hv15 hv16 hv17 hv18 hv19 hv20 hv21 hv22 hv23 hv24 hv25 hv26 hv27 hv28 hv29 hv30 hv31 hv32 hv33 hv34 hv35 hv36 hr0 hr1 hr2 hr3 hr4 hr5 hr6 hr7 hr8 hr9 hr10 hr11 hr12 hr13 hr14 hr15 hr16 hr17 hr18 hr19 hr20 hr21 hr22 hr23 hr24 hr25 hr26 hr27 hr28 hr29 hr30 hr31 hr32 hr33 hr34 hr35 hr36
  obtain hS:=(show Sep w0 (.lst 29 1 pS n cS (mmE GS) :: .lst 29 1 pH n cH (mmE (((GH.set l ⟨pc,cc,xc.set i (nd xc k)⟩)).set l ⟨pc,cc,((xc.set i (nd xc k))).set k (nd xc i)⟩)) :: .lst 29 1 pR n cR (mmE ((QR.set i ⟨pv,cv,xv⟩).set k ⟨pu,cu,xu⟩)) :: .blk gw [.int .u64 (((p:Nat):Int)),.slice pH n cH,.slice pS n cS,.slice pR n cR] 59 :: R) w11 from Sep.pickT [.lst 29 1 pH n cH (mmE (((GH.set l ⟨pc,cc,xc.set i (nd xc k)⟩)).set l ⟨pc,cc,((xc.set i (nd xc k))).set k (nd xc i)⟩)),.lst 29 1 pR n cR (mmE ((QR.set i ⟨pv,cv,xv⟩).set k ⟨pu,cu,xu⟩)),.blk gw [.int .u64 (((p:Nat):Int)),.slice pH n cH,.slice pS n cS,.slice pR n cR] 59,.lst 29 1 pS n cS (mmE GS)] [.lst 29 1 pS n cS (mmE GS),.lst 29 1 pH n cH (mmE (((GH.set l ⟨pc,cc,xc.set i (nd xc k)⟩)).set l ⟨pc,cc,((xc.set i (nd xc k))).set k (nd xc i)⟩)),.lst 29 1 pR n cR (mmE ((QR.set i ⟨pv,cv,xv⟩).set k ⟨pu,cu,xu⟩)),.blk gw [.int .u64 (((p:Nat):Int)),.slice pH n cH,.slice pS n cS,.slice pR n cR] 59] hS [3,0,1,2] (by decide) rfl)
  refine wLt 37 rfl (by kernel_rfl) (ostoreM (i:=l) (g:=gd) (k:=i) (u:=(nd xd k)) Tryd.sizeOf24 hS rfl rfl (ev (v:=.pointer (some ⟨gd,i,none⟩)) rfl rfl) (ev (v:=.int .u32 ((nd xd k:Nat):Int)) rfl rfl) hqd hgd (show i < List.length xd by omega) (by omega) ?_)
  clear hS; intro w12 hS
  refine ⟨hNi,?_⟩
  refine wLt 38 rfl (by kernel_rfl) (oIx (p:=pd) (g:=gd) (off:=0) (m:=n) (k:=k) (j:=k) rfl rfl Tryd.runUnderlying29 Tryd.sizeOf24 (ev rfl rfl) hgd (ev rfl rfl) (by omega) (by simp) ?_)
  refine ⟨hNi,?_⟩
  refine wLt 39 rfl (by kernel_rfl) (ostoreM (i:=l) (g:=gd) (k:=k) (u:=(nd xd i)) Tryd.sizeOf24 hS rfl rfl (ev (v:=.pointer (some ⟨gd,k,none⟩)) rfl rfl) (ev (v:=.int .u32 ((nd xd i:Nat):Int)) rfl rfl) (qset_self hqd) hgd (show k < List.length ((xd.set i (nd xd k))) by omega) (by omega) ?_)
  clear hS; intro w13 hS
  refine ⟨hNi,?_⟩
  refine wdone rfl ?_
  refine blkN (tNo (wreg (wbc (u:=.int .i64 (l:Int)) (v:=.int .i64 1) (z:=.int .i64 ((l + 1:Nat):Int)) rfl rfl (bAd (wI6 (by omega) (by omega))) ?_)))
  refine wmv (v:=.int .i64 ((l + 1:Nat):Int)) rfl rfl ?_
  refine wn1 ?_
  rw [qset2,qset2] at hS
  exact ⟨(l + 1),⟨_,_,_,aSs ⟨rfl,rfl,rfl,rfl,rfl,trivial⟩,Sep.pickT [.lst 29 1 pS n cS (mmE (GS.set l ⟨pd,cd,((xd.set i (nd xd k)).set k (nd xd i))⟩)),.lst 29 1 pH n cH (mmE (GH.set l ⟨pc,cc,((xc.set i (nd xc k)).set k (nd xc i))⟩)),.lst 29 1 pR n cR (mmE ((QR.set i ⟨pv,cv,xv⟩).set k ⟨pu,cu,xu⟩)),.blk gw [.int .u64 (p:Int),.slice pH n cH,.slice pS n cS,.slice pR n cR] 59] [.lst 29 1 pR n cR (mmE ((QR.set i ⟨pv,cv,xv⟩).set k ⟨pu,cu,xu⟩)),.lst 29 1 pH n cH (mmE (GH.set l ⟨pc,cc,((xc.set i (nd xc k)).set k (nd xc i))⟩)),.blk gw [.int .u64 (p:Int),.slice pH n cH,.slice pS n cS,.slice pR n cR] 59,.lst 29 1 pS n cS (mmE (GS.set l ⟨pd,cd,((xd.set i (nd xd k)).set k (nd xd i))⟩))] hS [2,1,3,0] (by decide) rfl,by omega,by rw [nums_set,mapTo, ← hG,hdc]; rfl,by rw [nums_set,mapTo, ← hF,hdd]; rfl⟩,by omega⟩
 refine wbt (u:=.int .i64 (l:Int)) (v:=.int .i64 (n:Int)) rfl rfl rfl rfl (bLs (decide_eq_false (by omega))) ?_
 refine wn1 (wSq ?_)
 refine wF (ev rfl rfl) ?_
 refine wEx ?_
 refine tEx ?_
 refine tEx ?_
 refine blkE ?_
 have hln9:l = n:=by omega
 refine wret0n Tryd.results38 ?_
 exact ⟨_,_,rfl,⟨_,_,_,by rw [hG,mapTo_all (by rw [hln9,swapM_len,hok.hl])]; rfl,by rw [hF,mapTo_all (by rw [hln9,hok.sl])]; rfl,by rw [nums_set,nums_set]; show _ = swapM s.R i k; unfold swapM; rw [← hQR,hdu,hdv],rfl,rfl⟩,Sep.pickT [.lst 29 1 pR n cR (mmE ((QR.set i ⟨pv,cv,xv⟩).set k ⟨pu,cu,xu⟩)),.lst 29 1 pH n cH (mmE GH),.blk gw [.int .u64 (p:Int),.slice pH n cH,.slice pS n cS,.slice pR n cR] 59,.lst 29 1 pS n cS (mmE GS)] [.blk gw [.int .u64 (p:Int),.slice pH n cH,.slice pS n cS,.slice pR n cR] 59,.lst 29 1 pH n cH (mmE GH),.lst 29 1 pS n cS (mmE GS),.lst 29 1 pR n cR (mmE ((QR.set i ⟨pv,cv,xv⟩).set k ⟨pu,cu,xu⟩))] hS [2,1,3,0] (by decide) rfl⟩
end Go.Proofs.YtcfcdbeemhjhgaaDoor
