
/-
  The walk of similelaw21.HessSame.
-/
import Derived.Test.YtcfcdbeemhjhgaaDoorHG
import Derived.Test.YtcfcdbeemhjhgaaDoorMmOpen
import Derived.Test.YtcfcdbeemhjhgaaDoorLT
set_option linter.unusedVariables false
set_option linter.unusedSimpArgs false
set_option maxRecDepth 100000
set_option maxHeartbeats 16000000
namespace Go.Proofs.YtcfcdbeemhjhgaaDoor
open Go.RowKit
theorem hessSame_e {pm:Option Addr} {nm cm p:Nat} {M:List (List Nat)} {w:World} (ht:Tb w) (hm:MS w pm nm M) (hp2:p < 4294967296) (hs:SmallM M) {e:Nat} (hc:HFa p M e) (he:e ≠ 0) :
  Calls Tryd.prog 5 #[.slice pm nm cm,.int .u32 ((p:Nat):Int)] w (Ret (Is (.bool true)) w):=by
 have hml:=hm.1
 have hb1:nm ≤ 2097152:=by have:=hs.1; omega
 have hS:=Sep.init w
 refine went Tryd.func5 rfl (n:=150) rfl rfl ?_
 refine wseq (wreg (wl rfl (oassign (v:=.bool false) rfl rfl evc ?_)))
 refine wnil (thenN (wseq (wseq (wreg (wl rfl (omove (v:=.slice pm nm cm) rfl rfl (ev rfl rfl) ?_))))))
 refine wl rfl (omove (v:=.int .u32 (p:Int)) rfl rfl (ev rfl rfl) ?_)
 refine wl rfl (ocall rfl rfl Tryd.call10 rfl (wqfits (hm.at hS) hp2 (by omega) (hc)) (args2 (ev rfl rfl) (ev rfl rfl)) ?_)
 rintro _ w1 ⟨_,_,rfl,⟨rfl,rfl⟩,hN⟩
 refine ⟨_,rfl,?_⟩
 replace hS:=hS.news hN; clear hN
 refine wl rfl (obin (u:=.int .i64 (e:Int)) (v:=.int .i64 0) (z:=.bool true) rfl rfl (ev rfl rfl) evc (bin_neq (neT (by omega))) ?_)
 refine wnil (thenN ?_)
 refine wT (ev rfl rfl) ?_
 refine wseq (wreg (wl rfl (ocall rfl rfl Tryd.call12 rfl (wllives (ht.at hS)) (args0 ) ?_)))
 rintro _ w2 ⟨_,_,rfl,⟨rfl,rfl⟩,hN⟩
 refine ⟨_,rfl,?_⟩
 replace hS:=hS.news hN; clear hN
 refine wl rfl (oassign (v:=.bool true) rfl rfl (ev rfl rfl) ?_)
 refine wnil (thenN ?_)
 refine wleave ?_
 refine thenR ?_
 refine wret1 Tryd.results5 (tellT (v:=.bool true) rfl rfl) ?_
 exact ⟨_,_,rfl,isI,hS.new0⟩
theorem hessSame_ok {pm:Option Addr} {nm cm p:Nat} {M:List (List Nat)} {w:World} (ht:Tb w) (hm:MS w pm nm M) (hp2:p < 4294967296) (hs:SmallM M) (hp:MR.Pr p) (hr:RectM M) (h0:nm ≠ 0) (hq:M.length = colsM M) (hbig:nm ≤ 24) :
  Calls Tryd.prog 5 #[.slice pm nm cm,.int .u32 ((p:Nat):Int)] w (Ret (Is (.bool true)) w):=by
 have hml:=hm.1
 have hb1:nm ≤ 2097152:=by have:=hs.1; omega
 have hp1:=hp.1
 have hp0:0 < p:=by omega
 obtain ⟨s9,hs9⟩:∃ s,HS.red p nm M (nm - 2) = s:=⟨_,rfl⟩
 have hok:HOk p nm s9:=by rw [← hs9]; exact HOk.redk hp1 hr (by omega) hq (Nat.le_refl _)
 obtain ⟨c9,hc9⟩:∃ c,charL p M = c:=⟨_,rfl⟩
 obtain ⟨hcl,hct,hcH,hcT⟩:=char_facts hp hr h0 hq hml hc9
 rw [hs9] at hcH
 have htz:=trace_zeroN hp hr h0 hq hml hc9
 obtain ⟨hrH,hqH⟩:=shp_rect hok.hs hok.hl h0
 obtain ⟨hrT,hqT⟩:=tpM_rect (M:=M) h0
 have hMr:∀ r ∈ M,r.length = nm:=fun r h => by rw [hr r h]; omega
 have h1p:1 % p = 1:=Nat.mod_eq_of_lt (by omega)
 have hclt:∀ k,nd c9 k < p:=fun k => by rw [← hc9]; exact lt_nd (charL_lt hp0 M) hp0 k
 have hS:=Sep.init w
 refine went Tryd.func5 rfl (n:=150) rfl rfl ?_
 refine wseq (wreg (wl rfl (oassign (v:=.bool false) rfl rfl evc ?_)))
 refine wnil (thenN (wseq (wseq (wreg (wl rfl (omove (v:=.slice pm nm cm) rfl rfl (ev rfl rfl) ?_))))))
 refine wl rfl (omove (v:=.int .u32 (p:Int)) rfl rfl (ev rfl rfl) ?_)
 refine wl rfl (ocall rfl rfl Tryd.call10 rfl (wqfits (hm.at hS) hp2 (by omega) (HFa.ok hp hr (by omega) hq (by omega))) (args2 (ev rfl rfl) (ev rfl rfl)) ?_)
 rintro _ w1 ⟨_,_,rfl,⟨rfl,rfl⟩,hN⟩
 refine ⟨_,rfl,?_⟩
 replace hS:=hS.news hN; clear hN
 refine wl rfl (obin (u:=.int .i64 (((0:Nat):Int))) (v:=.int .i64 0) (z:=.bool false) rfl rfl (ev rfl rfl) evc (bin_neq (neF rfl)) ?_)
 refine wnil (thenN ?_)
 refine wF (ev rfl rfl) ?_
 refine wskip (thenN (wseq (wreg (wl rfl (omove (v:=.slice pm nm cm) rfl rfl (ev rfl rfl) ?_)))))
 refine wl rfl (omove (v:=.int .u32 (p:Int)) rfl rfl (ev rfl rfl) ?_)
 refine wl rfl (ocall rfl rfl Tryd.call16 rfl ((show Calls _ _ _ _ (Ret (rdH nm s9) _) from by rw [← hs9]; exact whReduce (ht.at hS) (show MS _ _ _ M from (hm.at hS)) hp2 hb1 hs.2 hp hr h0 hq hbig)) (args2 (ev rfl rfl) (ev rfl rfl)) ?_)
 rintro _ w2 ⟨_,_,rfl,⟨pH,cH,pS,cS,pR,cR,QH,QS,QR,hQH,hQS,hQR,rfl,rfl⟩,hN⟩
 refine ⟨_,rfl,?_⟩
 replace hS:=hS.news hN; clear hN
 refine wl rfl (omove (v:=.tuple #[.slice pH nm cH,.slice pS nm cS,.slice pR nm cR,.int .i64 0]) rfl rfl (ev rfl rfl) ?_)
 refine wl rfl (oextract (vs:=[.slice pH nm cH,.slice pS nm cS,.slice pR nm cR,.int .i64 0]) (v:=.slice pH nm cH) rfl rfl (ev rfl rfl) rfl ?_)
 refine wl rfl (oextract (vs:=[.slice pH nm cH,.slice pS nm cS,.slice pR nm cR,.int .i64 0]) (v:=.slice pS nm cS) rfl rfl (ev rfl rfl) rfl ?_)
 refine wl rfl (oextract (vs:=[.slice pH nm cH,.slice pS nm cS,.slice pR nm cR,.int .i64 0]) (v:=.slice pR nm cR) rfl rfl (ev rfl rfl) rfl ?_)
 refine wl rfl (oextract (vs:=[.slice pH nm cH,.slice pS nm cS,.slice pR nm cR,.int .i64 0]) (v:=.int .i64 0) rfl rfl (ev rfl rfl) rfl ?_)
 refine wl rfl (oassign (v:=.slice pH nm cH) rfl rfl (ev rfl rfl) ?_)
 refine wl rfl (oassign (v:=.slice pS nm cS) rfl rfl (ev rfl rfl) ?_)
 refine wl rfl (oassign (v:=.slice pR nm cR) rfl rfl (ev rfl rfl) ?_)
 refine wl rfl (oassign (v:=.int .i64 0) rfl rfl (ev rfl rfl) ?_)
 refine wnil (thenN (wseq (wreg (wl rfl (omove (v:=.slice pm nm cm) rfl rfl (ev rfl rfl) ?_)))))
 refine wl rfl (omove (v:=.int .u32 (p:Int)) rfl rfl (ev rfl rfl) ?_)
 refine wl rfl (ocall rfl rfl Tryd.call9 rfl ((show Calls _ _ _ _ (Ret (PEt c9 0) _) from by rw [← hc9]; exact whChar (ht.at hS) (show MS _ _ _ M from (hm.at hS)) hp2 hb1 (hs.2) hp (hr) h0 (hq) hbig)) (args2 (ev rfl rfl) (ev rfl rfl)) ?_)
 rintro _ w3 ⟨_,_,rfl,⟨pc,cc,rfl,rfl⟩,hN⟩
 refine ⟨_,rfl,?_⟩
 replace hS:=hS.news hN; clear hN
 refine wl rfl (omove (v:=.tuple #[.slice pc c9.length cc,.int .i64 0]) rfl rfl (ev rfl rfl) ?_)
 refine wl rfl (oextract (vs:=[.slice pc c9.length cc,.int .i64 0]) (v:=.slice pc c9.length cc) rfl rfl (ev rfl rfl) rfl ?_)
 refine wl rfl (oextract (vs:=[.slice pc c9.length cc,.int .i64 0]) (v:=.int .i64 0) rfl rfl (ev rfl rfl) rfl ?_)
 refine wl rfl (oassign (v:=.slice pc c9.length cc) rfl rfl (ev rfl rfl) ?_)
 refine wl rfl (oassign (v:=.int .i64 0) rfl rfl (ev rfl rfl) ?_)
 refine wnil (thenN (wseq (wreg (wl rfl (omove (v:=.slice pH nm cH) rfl rfl (ev rfl rfl) ?_)))))
 refine wl rfl (omove (v:=.int .u32 (p:Int)) rfl rfl (ev rfl rfl) ?_)
 refine wl rfl (ocall rfl rfl Tryd.call9 rfl ((show Calls _ _ _ _ (Ret (PEt c9 0) _) from by rw [← hcH]; exact whChar (ht.at hS) (show MS _ _ _ s9.H from (hQH) ▸ (hS.ms 1 rfl (by simp only [maxLen]; omega))) hp2 hb1 ((shp_small hok.hs hbig).2) hp (hrH) h0 (hqH) hbig)) (args2 (ev rfl rfl) (ev rfl rfl)) ?_)
 rintro _ w4 ⟨_,_,rfl,⟨pd,cd,rfl,rfl⟩,hN⟩
 refine ⟨_,rfl,?_⟩
 replace hS:=hS.news hN; clear hN
 refine wl rfl (omove (v:=.tuple #[.slice pd c9.length cd,.int .i64 0]) rfl rfl (ev rfl rfl) ?_)
 refine wl rfl (oextract (vs:=[.slice pd c9.length cd,.int .i64 0]) (v:=.slice pd c9.length cd) rfl rfl (ev rfl rfl) rfl ?_)
 refine wl rfl (oextract (vs:=[.slice pd c9.length cd,.int .i64 0]) (v:=.int .i64 0) rfl rfl (ev rfl rfl) rfl ?_)
 refine wl rfl (oassign (v:=.slice pd c9.length cd) rfl rfl (ev rfl rfl) ?_)
 refine wl rfl (oassign (v:=.int .i64 0) rfl rfl (ev rfl rfl) ?_)
 refine wnil (thenN (wseq (wreg (wl rfl (omove (v:=.slice pm nm cm) rfl rfl (ev rfl rfl) ?_)))))
 refine wl rfl (olen rfl rfl rfl Tryd.runUnderlying23 (p:=pm) (k:=nm) (m:=cm) (ev rfl rfl) ?_)
 refine wl rfl (oassign (v:=.int .i64 (nm:Int)) rfl rfl (ev rfl rfl) ?_)
 refine wnil (thenN (wseq (wreg (wl rfl (omove (v:=.int .i64 (nm:Int)) rfl rfl (ev rfl rfl) ?_)))))
 refine wl rfl (omakeL (zs:=[.slice none 0 0]) (k:=nm) (m:=nm) hS rfl rfl Tryd.underlying23 infoRow rfl rfl (by decide) rfl (ev (v:=.int .i64 (nm:Int)) rfl rfl) (ev (v:=.int .i64 (nm:Int)) rfl rfl) (by omega) (by omega) (by omega) ?_)
 clear hS; intro g5 w6 hS
 refine wl rfl (oassign (v:=.slice (some ⟨g5,0,none⟩) nm nm) rfl rfl (ev rfl rfl) ?_)
 refine wnil (thenN (wseq (wreg (wl rfl (oassign (v:=.int .u64 0) rfl rfl evc ?_)))))
 refine wnil (thenN (wseq (wseq (wreg (wl rfl (omove (v:=.slice pm nm cm) rfl rfl (ev rfl rfl) ?_))))))
 refine wl rfl (olen rfl rfl rfl Tryd.runUnderlying23 (p:=pm) (k:=nm) (m:=cm) (ev rfl rfl) ?_)
 refine wl rfl (omove (v:=.int .i64 0) rfl rfl evc ?_)
 refine wnil (thenN (wblock ?_))
 replace hS:=hS.nilMM
 refine wloop (σ := Nat) (fun i a9 w' => ∃ (fb:Nat → Value) (TQ:List Rw) (trv:Nat),a9 = act 150 (sets fb [(0,.slice pm nm cm),(1,.int .u32 (p:Int)),(4,.bool false),(8,.int .i64 0),(9,.slice pc c9.length cc),(10,.int .i64 0),(11,.slice pd c9.length cd),(12,.int .i64 0),(13,.int .i64 (nm:Int)),(14,.slice (some ⟨g5,0,none⟩) nm nm),(15,.int .u64 (trv:Int)),(50,.int .i64 (nm:Int)),(51,.int .i64 (i:Int))]) ∧ Sep w [.lst 29 1 (some ⟨g5,0,none⟩) nm nm (mmE TQ),.rdo pd c9.length cd c9,.rdo pc c9.length cc c9,.lst 29 1 pH nm cH (mmE QH),.lst 29 1 pS nm cS (mmE QS),.lst 29 1 pR nm cR (mmE QR)] w' ∧ (i ≤ nm) ∧ (nums TQ = mkM i nm (fun i k => nd (M.getD k []) i) ++ List.replicate (nm - i) []) ∧ (trv = trN p M i)) (fun i => nm - i) (0) ⟨_,(List.replicate nm ⟨none,0,[]⟩),0,act_sets (l:=[(0,.slice pm nm cm),(1,.int .u32 (p:Int)),(4,.bool false),(8,.int .i64 0),(9,.slice pc c9.length cc),(10,.int .i64 0),(11,.slice pd c9.length cd),(12,.int .i64 0),(13,.int .i64 (nm:Int)),(14,.slice (some ⟨g5,0,none⟩) nm nm),(15,.int .u64 0),(50,.int .i64 (nm:Int)),(51,.int .i64 0)]) ⟨rfl,rfl,rfl,rfl,rfl,rfl,rfl,rfl,rfl,rfl,rfl,rfl,rfl,trivial⟩,hS,Nat.zero_le _,nums_rep _ _,rfl⟩ ?_
 clear hS; rintro i _ w7 ⟨fb,TQ,trv,rfl,hS,hi,hT,htr⟩
 refine wseq (wreg ?_)
 by_cases hli:i < nm
 ·
  have hTl:TQ.length = nm:=by have h9:=nums_len TQ; rw [hT,List.length_append,mkM_len,List.length_replicate] at h9; omega
  refine wl rfl (obin (u:=.int .i64 (i:Int)) (v:=.int .i64 (nm:Int)) (z:=.bool true) rfl rfl (ev rfl rfl) (ev rfl rfl) (bin_lss (decide_eq_true (by omega))) ?_)
  refine wnil (thenN (wseq ?_))
  refine wT (ev rfl rfl) ?_
  refine wskip (thenN (wseq (wblock (wseq (wreg (wl rfl (omove (v:=.int .i64 (i:Int)) rfl rfl (ev rfl rfl) ?_)))))))
  refine wl rfl (oassign (v:=.int .i64 (i:Int)) rfl rfl (ev rfl rfl) ?_)
  refine wnil (thenN (wseq (wseq (wreg (wl rfl (omove (v:=.slice pm nm cm) rfl rfl (ev rfl rfl) ?_))))))
  refine wl rfl (olen rfl rfl rfl Tryd.runUnderlying23 (p:=pm) (k:=nm) (m:=cm) (ev rfl rfl) ?_)
  refine wl rfl (omove (v:=.int .i64 0) rfl rfl evc ?_)
  refine wnil (thenN (wblock ?_))
  obtain ⟨⟨p0,c0,x0⟩,hq0⟩:∃ q,TQ[i]? = some q:=⟨_,List.getElem?_eq_getElem (by omega)⟩
  obtain rfl:x0 = []:=rep_row (m:=nm - (i + 1)) (by rw [hT]; congr 2; omega) hq0
  rw [← qset_id hq0] at hS
  refine wloop (σ := Nat) (fun k a9 w' => ∃ (fb:Nat → Value) (pt:Option Addr) (ct:Nat),a9 = act 150 (sets fb [(0,.slice pm nm cm),(1,.int .u32 (p:Int)),(4,.bool false),(8,.int .i64 0),(9,.slice pc c9.length cc),(10,.int .i64 0),(11,.slice pd c9.length cd),(12,.int .i64 0),(13,.int .i64 (nm:Int)),(14,.slice (some ⟨g5,0,none⟩) nm nm),(15,.int .u64 (trv:Int)),(16,.int .i64 (i:Int)),(50,.int .i64 (nm:Int)),(51,.int .i64 (i:Int)),(55,.int .i64 (nm:Int)),(56,.int .i64 (k:Int))]) ∧ Sep w [.lst 29 1 (some ⟨g5,0,none⟩) nm nm (mmE (TQ.set i ⟨pt,ct,rowF k (fun k => nd (M.getD k []) i)⟩)),.rdo pd c9.length cd c9,.rdo pc c9.length cc c9,.lst 29 1 pH nm cH (mmE QH),.lst 29 1 pS nm cS (mmE QS),.lst 29 1 pR nm cR (mmE QR)] w' ∧ (k ≤ nm)) (fun k => nm - k) (0) ⟨_,p0,c0,act_sets (l:=[(0,.slice pm nm cm),(1,.int .u32 (p:Int)),(4,.bool false),(8,.int .i64 0),(9,.slice pc c9.length cc),(10,.int .i64 0),(11,.slice pd c9.length cd),(12,.int .i64 0),(13,.int .i64 (nm:Int)),(14,.slice (some ⟨g5,0,none⟩) nm nm),(15,.int .u64 (trv:Int)),(16,.int .i64 (i:Int)),(50,.int .i64 (nm:Int)),(51,.int .i64 (i:Int)),(55,.int .i64 (nm:Int)),(56,.int .i64 0)]) ⟨rfl,rfl,rfl,rfl,rfl,rfl,rfl,rfl,rfl,rfl,rfl,rfl,rfl,rfl,rfl,rfl,trivial⟩,hS,Nat.zero_le _⟩ ?_
  clear hS; rintro k _ w8 ⟨fb,pt,ct,rfl,hS,hk⟩
  refine wseq (wreg ?_)
  by_cases hlk:k < nm
  ·
   refine wl rfl (obin (u:=.int .i64 (k:Int)) (v:=.int .i64 (nm:Int)) (z:=.bool true) rfl rfl (ev rfl rfl) (ev rfl rfl) (bin_lss (decide_eq_true (by omega))) ?_)
   refine wnil (thenN (wseq ?_))
   refine wT (ev rfl rfl) ?_
   refine wskip (thenN (wseq (wblock (wseq (wreg (wl rfl (omove (v:=.int .i64 (k:Int)) rfl rfl (ev rfl rfl) ?_)))))))
   refine wl rfl (oassign (v:=.int .i64 (k:Int)) rfl rfl (ev rfl rfl) ?_)
   refine wnil (thenN ?_)
   obtain ⟨xr,hxr⟩:∃ r,(M)[k]? = some r:=⟨_,List.getElem?_eq_getElem (by have:=hm.1; omega)⟩
   obtain ⟨br,ofr,pr,cr,hpr,hcr,hsr⟩:=hm.2.2 k _ hxr
   have hrl:=hMr xr (List.mem_of_getElem? hxr)
   obtain ⟨bce,oce,hpce,hcce⟩:=hsr.el (show i < xr.length by omega)
   refine wstage 14 [59,60,61,62,63,64,65,66,67,68,69,70,71,72] [[],[],[],[],[2,3],[4,2,3],[],[],[6,7],[8,6,7],[],[9,10,6,7,8],[11,6,7,8,9,10],[12,6,7,8,9,10,11]] [[],[],[],[],[],[],[],[],[],[],[],[],[],[]] [0,1] [] (fun i9 => ([fun _ => Is (.slice (some ⟨g5,0,none⟩) nm nm),fun _ => Is (.int .i64 (i:Int)),fun _ => Is (.slice (some ⟨g5,0,none⟩) nm nm),fun _ => Is (.int .i64 (i:Int)),fun _ => Is (.pointer (some ⟨g5,(0 + i * 1),none⟩)),fun _ => Is (.slice pt k ct),fun _ => Is (.slice pm nm cm),fun _ => Is (.int .i64 (k:Int)),fun _ => Is (.pointer (some ⟨br,(ofr + k * 1),none⟩)),fun _ => Is (.slice pr xr.length cr),fun _ => Is (.int .i64 (i:Int)),fun _ => Is (.pointer (some ⟨bce,(oce + i * 1),none⟩)),fun _ => Is (.int .u32 (((nd xr i:Nat):Int))),fun _ => Slb [.int .u32 (((nd xr i:Nat):Int))] 24 1]:List (List Value → Tell)).getD i9 (fun _ _ _ => False)) (heldNil) (fun d _ _ _ _ h => (by cases d <;> exact h)) (by kernel_rfl) (by kernel_rfl) (by kernel_rfl) hS ?_ ?_
   ·
    refine stepsPure rfl ?_ ?_
    ·intro f' ρ ho hT
     exact ⟨_,.inl ⟨want_none rfl,fun w hw => ymove (v:=.slice (some ⟨g5,0,none⟩) nm nm) rfl (ev (v:=.slice (some ⟨g5,0,none⟩) nm nm) rfl (ho 14 rfl)) w⟩,isI⟩
    refine stepsPure rfl ?_ ?_
    ·intro f' ρ ho hT
     exact ⟨_,.inl ⟨want_none rfl,fun w hw => ymove (v:=.int .i64 (i:Int)) rfl (ev (v:=.int .i64 (i:Int)) rfl (ho 16 rfl)) w⟩,isI⟩
    refine stepsCons rfl (fun Q f' w' ρ S ho hT hS hB => ?_) ?_
    ·exact .inl ⟨want_none rfl,omove (v:=.slice (some ⟨g5,0,none⟩) nm nm) rfl rfl (ev rfl (ho 14 rfl)) ⟨_,_,rfl,isI,New.same _⟩⟩
    refine stepsCons rfl (fun Q f' w' ρ S ho hT hS hB => ?_) ?_
    ·exact .inl ⟨want_none rfl,omove (v:=.int .i64 (i:Int)) rfl rfl (ev rfl (ho 16 rfl)) ⟨_,_,rfl,isI,New.same _⟩⟩
    refine stepsCons rfl (fun Q f' w' ρ S ho hT hS hB => ?_) ?_
    ·obtain ⟨hv2,hr2⟩:=(hT 2 61 rfl rfl:(Is (.slice (some ⟨g5,0,none⟩) nm nm)) _ _)
     obtain ⟨hv3,hr3⟩:=(hT 3 62 rfl rfl:(Is (.int .i64 (((i:Nat):Int)))) _ _)
     obtain hS:=hS.flat2 hr2 hr3
     exact .inl ⟨want_none rfl,oindex (p:=(some ⟨g5,0,none⟩)) (g:=g5) (off:=0) (m:=nm) (k:=i) (j:=(0 + i * 1)) rfl rfl Tryd.runUnderlying23 Tryd.sizeOf29 (ev rfl hv2) ((rfl)) (ev rfl hv3) (by omega) rfl ⟨_,_,rfl,isI,New.same _⟩⟩
    refine stepsCons rfl (fun Q f' w' ρ S ho hT hS hB => ?_) ?_
    ·obtain ⟨hv4,hr4⟩:=(hT 4 63 rfl rfl:(Is (.pointer (some ⟨g5,(0 + i * 1),none⟩))) _ _)
     obtain hS:=hS.flat1 hr4
     exact .inl ⟨want_none rfl,oloadc (v:=.slice pt k ct) (show One Tryd.prog 29 from ⟨Tryd.isAgg29,Tryd.sizeOf29⟩) rfl rfl (ev (v:=.pointer (some ⟨g5,(0 + i * 1),none⟩)) rfl hv4) (hS.mRow 0 rfl (qset_self hq0) (rowF_len _ _) (rfl)) ⟨_,_,rfl,isI,New.same _⟩⟩
    refine stepsCons rfl (fun Q f' w' ρ S ho hT hS hB => ?_) ?_
    ·exact .inl ⟨want_none rfl,omove (v:=.slice pm nm cm) rfl rfl (ev rfl (ho 0 rfl)) ⟨_,_,rfl,isI,New.same _⟩⟩
    refine stepsCons rfl (fun Q f' w' ρ S ho hT hS hB => ?_) ?_
    ·exact .inl ⟨want_none rfl,omove (v:=.int .i64 (k:Int)) rfl rfl (ev rfl (ho 17 rfl)) ⟨_,_,rfl,isI,New.same _⟩⟩
    refine stepsCons rfl (fun Q f' w' ρ S ho hT hS hB => ?_) ?_
    ·obtain ⟨hv6,hr6⟩:=(hT 6 65 rfl rfl:(Is (.slice pm nm cm)) _ _)
     obtain ⟨hv7,hr7⟩:=(hT 7 66 rfl rfl:(Is (.int .i64 (((k:Nat):Int)))) _ _)
     obtain hS:=hS.flat2 hr6 hr7
     exact .inl ⟨want_none rfl,oindex (p:=pm) (g:=br) (off:=ofr) (m:=nm) (k:=k) (j:=(ofr + k * 1)) rfl rfl Tryd.runUnderlying23 Tryd.sizeOf29 (ev rfl hv6) (hpr) (ev rfl hv7) (by omega) rfl ⟨_,_,rfl,isI,New.same _⟩⟩
    refine stepsCons rfl (fun Q f' w' ρ S ho hT hS hB => ?_) ?_
    ·obtain ⟨hv8,hr8⟩:=(hT 8 67 rfl rfl:(Is (.pointer (some ⟨br,(ofr + k * 1),none⟩))) _ _)
     obtain hS:=hS.flat1 hr8
     exact .inl ⟨want_none rfl,oloadc (v:=.slice pr xr.length cr) (show One Tryd.prog 29 from ⟨Tryd.isAgg29,Tryd.sizeOf29⟩) rfl rfl (ev (v:=.pointer (some ⟨br,(ofr + k * 1),none⟩)) rfl hv8) (hS.cellAt (hcr 0 _ rfl)) ⟨_,_,rfl,isI,New.same _⟩⟩
    refine stepsCons rfl (fun Q f' w' ρ S ho hT hS hB => ?_) ?_
    ·exact .inl ⟨want_none rfl,omove (v:=.int .i64 (i:Int)) rfl rfl (ev rfl (ho 16 rfl)) ⟨_,_,rfl,isI,New.same _⟩⟩
    refine stepsCons rfl (fun Q f' w' ρ S ho hT hS hB => ?_) ?_
    ·obtain ⟨hv9,hr9⟩:=(hT 9 68 rfl rfl:(Is (.slice pr xr.length cr)) _ _)
     obtain ⟨hv10,hr10⟩:=(hT 10 69 rfl rfl:(Is (.int .i64 (((i:Nat):Int)))) _ _)
     obtain hS:=hS.flat2 hr9 hr10
     exact .inl ⟨want_none rfl,oindex (p:=pr) (g:=bce) (off:=oce) (m:=xr.length) (k:=i) (j:=(oce + i * 1)) rfl rfl Tryd.runUnderlying29 Tryd.sizeOf24 (ev rfl hv9) (hpce) (ev rfl hv10) (by omega) rfl ⟨_,_,rfl,isI,New.same _⟩⟩
    refine stepsCons rfl (fun Q f' w' ρ S ho hT hS hB => ?_) ?_
    ·obtain ⟨hv11,hr11⟩:=(hT 11 70 rfl rfl:(Is (.pointer (some ⟨bce,(oce + i * 1),none⟩))) _ _)
     obtain hS:=hS.flat1 hr11
     exact .inl ⟨want_none rfl,oloadc (v:=.int .u32 (((nd xr i:Nat):Int))) one32 rfl rfl (ev (v:=.pointer (some ⟨bce,(oce + i * 1),none⟩)) rfl hv11) (hS.cellAt (hcce 0 _ rfl)) ⟨_,_,rfl,isI,New.same _⟩⟩
    refine stepsCons rfl (fun Q f' w' ρ S ho hT hS hB => ?_) ?_
    ·obtain ⟨hv12,hr12⟩:=(hT 12 71 rfl rfl:(Is (.int .u32 (((nd xr i:Nat):Int)))) _ _)
     obtain hS:=hS.flat1 hr12
     exact .inl ⟨want_none rfl,obsliceN (ps:=#[(0,.int .u32 (((nd xr i:Nat):Int)))]) (z:=.int .u32 0) [.int .u32 (((nd xr i:Nat):Int))] rfl rfl Tryd.runUnderlying29 Tryd.sizeOf24 Tryd.zeroValue24 (parts1 (ev (v:=.int .u32 (((nd xr i:Nat):Int))) rfl hv12)) rfl (by decide) (fill1_1s rfl rfl) ⟨_,_,rfl,⟨_,rfl,rfl⟩,New.blk _ _ _⟩⟩
    exact stepsNil
   ·
    intro vs ρ w10 f' hf hT hS
    obtain ⟨hv0,hr0⟩:=(hT 0 (by decide):(Is (.slice (some ⟨g5,0,none⟩) nm nm)) _ _)
    obtain ⟨hv1,hr1⟩:=(hT 1 (by decide):(Is (.int .i64 (((i:Nat):Int)))) _ _)
    obtain ⟨hv2,hr2⟩:=(hT 2 (by decide):(Is (.slice (some ⟨g5,0,none⟩) nm nm)) _ _)
    obtain ⟨hv3,hr3⟩:=(hT 3 (by decide):(Is (.int .i64 (((i:Nat):Int)))) _ _)
    obtain ⟨hv4,hr4⟩:=(hT 4 (by decide):(Is (.pointer (some ⟨g5,(0 + i * 1),none⟩))) _ _)
    obtain ⟨hv5,hr5⟩:=(hT 5 (by decide):(Is (.slice pt k ct)) _ _)
    obtain ⟨hv6,hr6⟩:=(hT 6 (by decide):(Is (.slice pm nm cm)) _ _)
    obtain ⟨hv7,hr7⟩:=(hT 7 (by decide):(Is (.int .i64 (((k:Nat):Int)))) _ _)
    obtain ⟨hv8,hr8⟩:=(hT 8 (by decide):(Is (.pointer (some ⟨br,(ofr + k * 1),none⟩))) _ _)
    obtain ⟨hv9,hr9⟩:=(hT 9 (by decide):(Is (.slice pr xr.length cr)) _ _)
    obtain ⟨hv10,hr10⟩:=(hT 10 (by decide):(Is (.int .i64 (((i:Nat):Int)))) _ _)
    obtain ⟨hv11,hr11⟩:=(hT 11 (by decide):(Is (.pointer (some ⟨bce,(oce + i * 1),none⟩))) _ _)
    obtain ⟨hv12,hr12⟩:=(hT 12 (by decide):(Is (.int .u32 (((nd xr i:Nat):Int)))) _ _)
    obtain ⟨g9,hv13,hr13⟩:=(hT 13 (by decide):(Slb [.int .u32 (((nd xr i:Nat):Int))] 24 1) _ _)
    simp only [pool,if_true,hr0,hr1,hr2,hr3,hr4,hr5,hr6,hr7,hr8,hr9,hr10,hr11,hr12,hr13,List.nil_append,List.cons_append,List.append_nil] at hS
    simp only [layf,hv0,hv1,hv2,hv3,hv4,hv5,hv6,hv7,hv8,hv9,hv10,hv11,hv12,hv13] at hf
    subst hf; clear hT hv0 hv1 hv2 hv3 hv4 hv5 hv6 hv7 hv8 hv9 hv10 hv11 hv12 hv13 hr0 hr1 hr2 hr3 hr4 hr5 hr6 hr7 hr8 hr9 hr10 hr11 hr12 hr13
    obtain hS:=(show Sep w [.lst 29 1 (some ⟨g5,0,none⟩) nm nm (mmE (TQ.set i ⟨pt,ct,rowF k (fun k => nd (M.getD k []) i)⟩)),.blk g9 [.int .u32 (((nd xr i:Nat):Int))] 24,.rdo pd c9.length cd c9,.rdo pc c9.length cc c9,.lst 29 1 pH nm cH (mmE QH),.lst 29 1 pS nm cS (mmE QS),.lst 29 1 pR nm cR (mmE QR)] w10 from hS.pick [1,0,2,3,4,5,6] (by decide) rfl)
    obtain hS:=hS.take1 (n:=k) (qset_self hq0) (rowF_len _ _)
    obtain hS:=hS.rowLst
    refine wlate 14 rfl (by kernel_rfl) (oappendL (p:=pt) (m:=k) (c:=ct) (g2:=g9) (c2:=1) (off:=0) [.int .u32 (((nd xr i:Nat):Int))] [] hS rfl rfl Tryd.underlying29 infouint32 rfl (by decide) (ev (v:=.slice pt k ct) rfl rfl) (ev (v:=.slice (some ⟨g9,0,none⟩) 1 1) rfl rfl) (fun j v hj => by rw [Nat.zero_add]; exact (blk_cell (hS.blkAt 2 rfl) j).trans hj) rfl rfl rfl (by omega) (by omega) ?_)
    clear hS; intro p12 c13 w11 hS
    refine ⟨heldNil,?_⟩
    refine wlate 15 rfl (by kernel_rfl) (oindex (p:=(some ⟨g5,0,none⟩)) (g:=g5) (off:=0) (m:=nm) (k:=i) (j:=(0 + i * 1)) rfl rfl Tryd.runUnderlying23 Tryd.sizeOf29 (ev rfl rfl) ((rfl)) (ev rfl rfl) (by omega) rfl ?_)
    refine ⟨heldNil,?_⟩
    obtain hS:=(show Sep w [.lst 24 1 p12 (k + 1) c13 (u32E (rowF (k + 1) (fun k => nd (M.getD k []) i))),.lst 29 1 (some ⟨g5,0,none⟩) nm nm ((mmE (TQ.set i ⟨pt,ct,rowF k (fun k => nd (M.getD k []) i)⟩)).set i ⟨[.slice pt k ct],[]⟩),.blk g9 [.int .u32 (((nd xr i:Nat):Int))] 24,.rdo pd c9.length cd c9,.rdo pc c9.length cc c9,.lst 29 1 pH nm cH (mmE QH),.lst 29 1 pS nm cS (mmE QS),.lst 29 1 pR nm cR (mmE QR)] w11 from by rw [rowF_S,u32E_app,getD_get hxr]; exact hS).lstRow (xs:=rowF (k + 1) (fun k => nd (M.getD k []) i)) (fun j hj => by rw [rowF_len] at hj; rw [rowF_nd hj]; exact hm.lt32 j i)
    refine wlate 16 rfl (by kernel_rfl) (ostoreL (i:=i) (g:=g5) [.slice p12 ((k + 1)) c13] [.rowm p12 ((k + 1)) c13 (rowF (k + 1) (fun k => nd (M.getD k []) i))] Tryd.sizeOf29 hS rfl rfl (ev (v:=.pointer (some ⟨g5,(0 + i * 1),none⟩)) rfl rfl) (ev (v:=.slice p12 ((k + 1)) c13) rfl rfl) (rfl) rfl rfl rfl (rfl) (by omega) rfl ?_)
    clear hS; intro w14 hS
    refine ⟨heldNil,?_⟩
    refine wdone rfl ?_
    refine blkN (thenN (wreg ?_))
    rw [set_mm (rowF_len _ _),qset2] at hS
    refine wl rfl (obin (u:=.int .i64 (k:Int)) (v:=.int .i64 1) (z:=.int .i64 (((k + 1:Nat):Int))) rfl rfl (ev rfl rfl) evc (bin_add (wrap_i64 (by omega) (by omega))) ?_)
    refine wl rfl (omove (v:=.int .i64 (((k + 1:Nat):Int))) rfl rfl (ev rfl rfl) ?_)
    refine wnil (thenN ?_)
    exact ⟨(k + 1),⟨_,_,_,act_sets (l:=[(0,.slice pm nm cm),(1,.int .u32 (p:Int)),(4,.bool false),(8,.int .i64 0),(9,.slice pc c9.length cc),(10,.int .i64 0),(11,.slice pd c9.length cd),(12,.int .i64 0),(13,.int .i64 (nm:Int)),(14,.slice (some ⟨g5,0,none⟩) nm nm),(15,.int .u64 (trv:Int)),(16,.int .i64 (i:Int)),(50,.int .i64 (nm:Int)),(51,.int .i64 (i:Int)),(55,.int .i64 (nm:Int)),(56,.int .i64 (((k + 1:Nat):Int)))]) ⟨rfl,rfl,rfl,rfl,rfl,rfl,rfl,rfl,rfl,rfl,rfl,rfl,rfl,rfl,rfl,rfl,trivial⟩,hS.pick [0,2,3,4,5,6] (by decide) rfl,by omega⟩,by omega⟩
  ·
   refine wl rfl (obin (u:=.int .i64 (k:Int)) (v:=.int .i64 (nm:Int)) (z:=.bool false) rfl rfl (ev rfl rfl) (ev rfl rfl) (bin_lss (decide_eq_false (by omega))) ?_)
   refine wnil (thenN (wseq ?_))
   refine wF (ev rfl rfl) ?_
   refine wexit ?_
   refine thenE ?_
   refine thenE ?_
   refine blkE ?_
   refine thenN (wreg (wl rfl (omove (v:=.int .u64 (trv:Int)) rfl rfl (ev rfl rfl) ?_)))
   refine wl rfl (omove (v:=.slice pm nm cm) rfl rfl (ev rfl rfl) ?_)
   refine wl rfl (omove (v:=.int .i64 (i:Int)) rfl rfl (ev rfl rfl) ?_)
   have hkn:k = nm:=by omega
   obtain ⟨xu,hxu⟩:∃ r,(M)[i]? = some r:=⟨_,List.getElem?_eq_getElem (by have:=hm.1; omega)⟩
   obtain ⟨bu,ofu,pu,cu,hpu,hcu,hsu⟩:=hm.2.2 i _ hxu
   have hul:=hMr xu (List.mem_of_getElem? hxu)
   have hmo:=Nat.mod_lt (nd xu i) hp0
   have htl:=trN_le (M:=M) hp0 hp2 i
   rw [← htr] at htl
   have hl7:=hsu.lim1 i
   obtain ⟨bcf,ocf,hpcf,hccf⟩:=hsu.el (show i < xu.length by omega)
   refine wl rfl (oindex (p:=pm) (g:=bu) (off:=ofu) (m:=nm) (k:=i) (j:=(ofu + i * 1)) rfl rfl Tryd.runUnderlying23 Tryd.sizeOf29 (ev rfl rfl) (hpu) (ev rfl rfl) (by omega) rfl ?_)
   refine wl rfl (oloadc (v:=.slice pu xu.length cu) (show One Tryd.prog 29 from ⟨Tryd.isAgg29,Tryd.sizeOf29⟩) rfl rfl (ev (v:=.pointer (some ⟨bu,(ofu + i * 1),none⟩)) rfl rfl) (hS.cellAt (hcu 0 _ rfl)) ?_)
   refine wl rfl (omove (v:=.int .i64 (i:Int)) rfl rfl (ev rfl rfl) ?_)
   refine wl rfl (oindex (p:=pu) (g:=bcf) (off:=ocf) (m:=xu.length) (k:=i) (j:=(ocf + i * 1)) rfl rfl Tryd.runUnderlying29 Tryd.sizeOf24 (ev rfl rfl) (hpcf) (ev rfl rfl) (by omega) rfl ?_)
   refine wl rfl (oloadc (v:=.int .u32 (((nd xu i:Nat):Int))) one32 rfl rfl (ev (v:=.pointer (some ⟨bcf,(ocf + i * 1),none⟩)) rfl rfl) (hS.cellAt (hccf 0 _ rfl)) ?_)
   refine wl rfl (omove (v:=.int .u32 (p:Int)) rfl rfl (ev rfl rfl) ?_)
   refine wl rfl (obin (u:=.int .u32 (((nd xu i:Nat):Int))) (v:=.int .u32 (p:Int)) (z:=.int .u32 (((nd xu i % p:Nat):Int))) rfl rfl (ev rfl rfl) (ev rfl rfl) (bin_rem (by omega) rfl) ?_)
   refine wl rfl (oconvert (u:=.int .u32 (((nd xu i % p:Nat):Int))) (v:=.int .u64 (((nd xu i % p:Nat):Int))) rfl rfl (ev rfl rfl) (convert_int Tryd.runUnderlying24 Tryd.runUnderlying44 (wrap_u64 (by omega) (by omega))) ?_)
   refine wl rfl (obin (u:=.int .u64 (trv:Int)) (v:=.int .u64 (((nd xu i % p:Nat):Int))) (z:=.int .u64 (((trv + nd xu i % p:Nat):Int))) rfl rfl (ev rfl rfl) (ev rfl rfl) (bin_add (wrap_u64 (by omega) (by omega))) ?_)
   refine wl rfl (oassign (v:=.int .u64 (((trv + nd xu i % p:Nat):Int))) rfl rfl (ev rfl rfl) ?_)
   refine wnil (blkN (thenN (wreg (wl rfl (obin (u:=.int .i64 (i:Int)) (v:=.int .i64 1) (z:=.int .i64 (((i + 1:Nat):Int))) rfl rfl (ev rfl rfl) evc (bin_add (wrap_i64 (by omega) (by omega))) ?_)))))
   refine wl rfl (omove (v:=.int .i64 (((i + 1:Nat):Int))) rfl rfl (ev rfl rfl) ?_)
   refine wnil (thenN ?_)
   exact ⟨(i + 1),⟨_,_,_,act_sets (l:=[(0,.slice pm nm cm),(1,.int .u32 (p:Int)),(4,.bool false),(8,.int .i64 0),(9,.slice pc c9.length cc),(10,.int .i64 0),(11,.slice pd c9.length cd),(12,.int .i64 0),(13,.int .i64 (nm:Int)),(14,.slice (some ⟨g5,0,none⟩) nm nm),(15,.int .u64 (((trv + nd xu i % p:Nat):Int))),(50,.int .i64 (nm:Int)),(51,.int .i64 (((i + 1:Nat):Int)))]) ⟨rfl,rfl,rfl,rfl,rfl,rfl,rfl,rfl,rfl,rfl,rfl,rfl,rfl,trivial⟩,hS.pick [0,1,2,3,4,5] (by decide) rfl,by omega,tp_next (m:=nm - (i + 1)) (by rw [hT]; congr 2; omega) (by rw [hkn]),by rw [trN, ← htr,getD_get hxu]⟩,by omega⟩
 ·
  refine wl rfl (obin (u:=.int .i64 (i:Int)) (v:=.int .i64 (nm:Int)) (z:=.bool false) rfl rfl (ev rfl rfl) (ev rfl rfl) (bin_lss (decide_eq_false (by omega))) ?_)
  refine wnil (thenN (wseq ?_))
  refine wF (ev rfl rfl) ?_
  refine wexit ?_
  refine thenE ?_
  refine thenE ?_
  refine blkE ?_
  refine thenN (wseq (wreg (wl rfl (omove (v:=.slice (some ⟨g5,0,none⟩) nm nm) rfl rfl (ev rfl rfl) ?_))))
  refine wl rfl (omove (v:=.int .u32 (p:Int)) rfl rfl (ev rfl rfl) ?_)
  have hin:i = nm:=by omega
  have hTT:nums TQ = tpM nm M:=by rw [hT,hin,Nat.sub_self]; exact List.append_nil _
  have htv:trv = trN p M nm:=by rw [htr,hin]
  refine wl rfl (ocall rfl rfl Tryd.call9 rfl ((show Calls _ _ _ _ (Ret (PEt c9 0) _) from by rw [← hcT]; exact whChar (ht.at hS) (show MS _ _ _ (tpM nm M) from (hTT) ▸ (hS.ms 0 rfl (by simp only [maxLen]; omega))) hp2 hb1 (fun r h => by rw [tpM_row r h]; omega) hp (hrT) h0 (hqT) hbig)) (args2 (ev rfl rfl) (ev rfl rfl)) ?_)
  rintro _ w8 ⟨_,_,rfl,⟨px,cx,rfl,rfl⟩,hN⟩
  refine ⟨_,rfl,?_⟩
  replace hS:=hS.news hN; clear hN
  refine wl rfl (omove (v:=.tuple #[.slice px c9.length cx,.int .i64 0]) rfl rfl (ev rfl rfl) ?_)
  refine wl rfl (oextract (vs:=[.slice px c9.length cx,.int .i64 0]) (v:=.slice px c9.length cx) rfl rfl (ev rfl rfl) rfl ?_)
  refine wl rfl (oextract (vs:=[.slice px c9.length cx,.int .i64 0]) (v:=.int .i64 0) rfl rfl (ev rfl rfl) rfl ?_)
  refine wl rfl (oassign (v:=.slice px c9.length cx) rfl rfl (ev rfl rfl) ?_)
  refine wl rfl (oassign (v:=.int .i64 0) rfl rfl (ev rfl rfl) ?_)
  refine wnil (thenN (wseq (wseq ?_)))
  obtain ⟨bc,oc,hpc,_⟩:=(hS.slo 3 rfl).el (show nm < c9.length by omega)
  have hln:=hclt (nm - 1)
  have hlm:=hclt nm
  have htl:=trN_le (M:=M) hp0 hp2 nm
  refine wstage 30 [95,96,97,98,99,100,101,102,103,104,105,106,107,108,109,110,111,112,113,114,115,116,117,118,119,120,121,122,123,124] [[],[0],[1,0],[2,0,1],[2,3,0,1],[2,4,0,1,3],[5,0,1,2,3,4],[6,0,1,2,3,4,5],[6,7,0,1,2,3,4,5],[6,8,0,1,2,3,4,5,7],[9,0,1,2,3,4,5,6,7,8],[10,0,1,2,3,4,5,6,7,8,9],[10,11,0,1,2,3,4,5,6,7,8,9],[10,12,0,1,2,3,4,5,6,7,8,9,11],[13,0,1,2,3,4,5,6,7,8,9,10,11,12],[14,0,1,2,3,4,5,6,7,8,9,10,11,12,13],[14,15,0,1,2,3,4,5,6,7,8,9,10,11,12,13],[14,0,1,2,3,4,5,6,7,8,9,10,11,12,13],[14,17,0,1,2,3,4,5,6,7,8,9,10,11,12,13],[14,16,18,0,1,2,3,4,5,6,7,8,9,10,11,12,13,15,17],[14,19,0,1,2,3,4,5,6,7,8,9,10,11,12,13,15,16,17,18],[20,0,1,2,3,4,5,6,7,8,9,10,11,12,13,14,15,16,17,18,19],[21,0,1,2,3,4,5,6,7,8,9,10,11,12,13,14,15,16,17,18,19,20],[21,0,1,2,3,4,5,6,7,8,9,10,11,12,13,14,15,16,17,18,19,20],[21,22,23,0,1,2,3,4,5,6,7,8,9,10,11,12,13,14,15,16,17,18,19,20],[21,24,0,1,2,3,4,5,6,7,8,9,10,11,12,13,14,15,16,17,18,19,20,22,23],[21,0,1,2,3,4,5,6,7,8,9,10,11,12,13,14,15,16,17,18,19,20],[21,26,0,1,2,3,4,5,6,7,8,9,10,11,12,13,14,15,16,17,18,19,20],[21,25,27,0,1,2,3,4,5,6,7,8,9,10,11,12,13,14,15,16,17,18,19,20,22,23,24,26],[21,28,0,1,2,3,4,5,6,7,8,9,10,11,12,13,14,15,16,17,18,19,20,22,23,24,25,26,27]] [[],[],[],[],[],[],[],[],[],[],[],[],[],[],[],[],[],[],[],[],[],[],[],[],[],[],[],[],[],[]] [] [] (fun i9 => ([fun _ => Is (.int .i64 0),fun _ => Is (.bool false),fun _ => Is (.bool false),fun _ => Is (.int .i64 0),fun _ => Is (.bool false),fun _ => Is (.bool false),fun _ => Is (.bool false),fun _ => Is (.int .i64 0),fun _ => Is (.bool false),fun _ => Is (.bool false),fun _ => Is (.bool false),fun _ => Is (.int .i64 0),fun _ => Is (.bool false),fun _ => Is (.bool false),fun _ => Is (.bool false),fun _ => Is (.slice pc c9.length cc),fun _ => Is (.int .i64 (c9.length:Int)),fun _ => Is (.int .i64 (nm:Int)),fun _ => Is (.int .i64 (((nm + 1:Nat):Int))),fun _ => Is (.bool false),fun _ => Is (.bool false),fun _ => Is (.bool false),fun _ => Is (.slice pc c9.length cc),fun _ => Is (.int .i64 (nm:Int)),fun _ => Is (.pointer (some ⟨bc,(oc + nm * 1),none⟩)),fun _ => Is (.int .u32 (((nd c9 nm:Nat):Int))),fun _ => Is (.int .u32 (p:Int)),fun _ => Is (.int .u32 (((1 % p:Nat):Int))),fun _ => Is (.bool false),fun _ => Is (.bool false)]:List (List Value → Tell)).getD i9 (fun _ _ _ => False)) (heldNil) (fun d _ _ _ _ h => (by cases d <;> exact h)) (by kernel_rfl) (by kernel_rfl) (by kernel_rfl) hS ?_ ?_
  ·
   refine stepsCons rfl (fun Q f' w' ρ S ho hT hS hB => ?_) ?_
   ·exact .inl ⟨want_none rfl,omove (v:=.int .i64 0) rfl rfl (ev rfl (ho 8 rfl)) ⟨_,_,rfl,isI,New.same _⟩⟩
   refine stepsCons rfl (fun Q f' w' ρ S ho hT hS hB => ?_) ?_
   ·obtain ⟨hv0,hr0⟩:=(hT 0 95 rfl rfl:(Is (.int .i64 0)) _ _)
    obtain hS:=hS.flat1 hr0
    exact .inl ⟨want_none rfl,obin (u:=.int .i64 0) (v:=.int .i64 0) (z:=.bool false) rfl rfl (ev rfl hv0) evc (bin_neq (by decide)) ⟨_,_,rfl,isI,New.same _⟩⟩
   refine stepsCons rfl (fun Q f' w' ρ S ho hT hS hB => ?_) ?_
   ·obtain ⟨hv1,hr1⟩:=(hT 1 96 rfl rfl:(Is (.bool false)) _ _)
    obtain hS:=hS.flat1 hr1
    exact .inl ⟨want_none rfl,omove (v:=.bool false) rfl rfl (ev rfl hv1) ⟨_,_,rfl,isI,New.same _⟩⟩
   refine stepsCons rfl (fun Q f' w' ρ S ho hT hS hB => ?_) ?_
   ·obtain ⟨hv2,hr2⟩:=(hT 2 97 rfl rfl:(Is (.bool false)) _ _)
    obtain hS:=hS.flat1 hr2
    exact .inl ⟨want_on (e:=97) rfl rfl rfl hv2,omove (v:=.int .i64 0) rfl rfl (ev rfl (ho 10 rfl)) ⟨_,_,rfl,isI,New.same _⟩⟩
   refine stepsCons rfl (fun Q f' w' ρ S ho hT hS hB => ?_) ?_
   ·obtain ⟨hv2,hr2⟩:=(hT 2 97 rfl rfl:(Is (.bool false)) _ _)
    obtain ⟨hv3,hr3⟩:=(hT 3 98 rfl rfl:(Is (.int .i64 0)) _ _)
    obtain hS:=hS.flat2 hr2 hr3
    exact .inl ⟨want_on (e:=97) rfl rfl rfl hv2,obin (u:=.int .i64 0) (v:=.int .i64 0) (z:=.bool false) rfl rfl (ev rfl hv3) evc (bin_neq (by decide)) ⟨_,_,rfl,isI,New.same _⟩⟩
   refine stepsCons rfl (fun Q f' w' ρ S ho hT hS hB => ?_) ?_
   ·obtain ⟨hv2,hr2⟩:=(hT 2 97 rfl rfl:(Is (.bool false)) _ _)
    obtain ⟨hv4,hr4⟩:=(hT 4 99 rfl rfl:(Is (.bool false)) _ _)
    obtain hS:=hS.flat2 hr2 hr4
    exact .inl ⟨want_none rfl,opick (b:=false) (v:=.bool false) rfl rfl (ev rfl hv2) (ev rfl hv4) ⟨_,_,rfl,isI,New.same _⟩⟩
   refine stepsCons rfl (fun Q f' w' ρ S ho hT hS hB => ?_) ?_
   ·obtain ⟨hv5,hr5⟩:=(hT 5 100 rfl rfl:(Is (.bool false)) _ _)
    obtain hS:=hS.flat1 hr5
    exact .inl ⟨want_none rfl,omove (v:=.bool false) rfl rfl (ev rfl hv5) ⟨_,_,rfl,isI,New.same _⟩⟩
   refine stepsCons rfl (fun Q f' w' ρ S ho hT hS hB => ?_) ?_
   ·obtain ⟨hv6,hr6⟩:=(hT 6 101 rfl rfl:(Is (.bool false)) _ _)
    obtain hS:=hS.flat1 hr6
    exact .inl ⟨want_on (e:=101) rfl rfl rfl hv6,omove (v:=.int .i64 0) rfl rfl (ev rfl (ho 12 rfl)) ⟨_,_,rfl,isI,New.same _⟩⟩
   refine stepsCons rfl (fun Q f' w' ρ S ho hT hS hB => ?_) ?_
   ·obtain ⟨hv6,hr6⟩:=(hT 6 101 rfl rfl:(Is (.bool false)) _ _)
    obtain ⟨hv7,hr7⟩:=(hT 7 102 rfl rfl:(Is (.int .i64 0)) _ _)
    obtain hS:=hS.flat2 hr6 hr7
    exact .inl ⟨want_on (e:=101) rfl rfl rfl hv6,obin (u:=.int .i64 0) (v:=.int .i64 0) (z:=.bool false) rfl rfl (ev rfl hv7) evc (bin_neq (by decide)) ⟨_,_,rfl,isI,New.same _⟩⟩
   refine stepsCons rfl (fun Q f' w' ρ S ho hT hS hB => ?_) ?_
   ·obtain ⟨hv6,hr6⟩:=(hT 6 101 rfl rfl:(Is (.bool false)) _ _)
    obtain ⟨hv8,hr8⟩:=(hT 8 103 rfl rfl:(Is (.bool false)) _ _)
    obtain hS:=hS.flat2 hr6 hr8
    exact .inl ⟨want_none rfl,opick (b:=false) (v:=.bool false) rfl rfl (ev rfl hv6) (ev rfl hv8) ⟨_,_,rfl,isI,New.same _⟩⟩
   refine stepsCons rfl (fun Q f' w' ρ S ho hT hS hB => ?_) ?_
   ·obtain ⟨hv9,hr9⟩:=(hT 9 104 rfl rfl:(Is (.bool false)) _ _)
    obtain hS:=hS.flat1 hr9
    exact .inl ⟨want_none rfl,omove (v:=.bool false) rfl rfl (ev rfl hv9) ⟨_,_,rfl,isI,New.same _⟩⟩
   refine stepsCons rfl (fun Q f' w' ρ S ho hT hS hB => ?_) ?_
   ·obtain ⟨hv10,hr10⟩:=(hT 10 105 rfl rfl:(Is (.bool false)) _ _)
    obtain hS:=hS.flat1 hr10
    exact .inl ⟨want_on (e:=105) rfl rfl rfl hv10,omove (v:=.int .i64 0) rfl rfl (ev rfl (ho 19 rfl)) ⟨_,_,rfl,isI,New.same _⟩⟩
   refine stepsCons rfl (fun Q f' w' ρ S ho hT hS hB => ?_) ?_
   ·obtain ⟨hv10,hr10⟩:=(hT 10 105 rfl rfl:(Is (.bool false)) _ _)
    obtain ⟨hv11,hr11⟩:=(hT 11 106 rfl rfl:(Is (.int .i64 0)) _ _)
    obtain hS:=hS.flat2 hr10 hr11
    exact .inl ⟨want_on (e:=105) rfl rfl rfl hv10,obin (u:=.int .i64 0) (v:=.int .i64 0) (z:=.bool false) rfl rfl (ev rfl hv11) evc (bin_neq (by decide)) ⟨_,_,rfl,isI,New.same _⟩⟩
   refine stepsCons rfl (fun Q f' w' ρ S ho hT hS hB => ?_) ?_
   ·obtain ⟨hv10,hr10⟩:=(hT 10 105 rfl rfl:(Is (.bool false)) _ _)
    obtain ⟨hv12,hr12⟩:=(hT 12 107 rfl rfl:(Is (.bool false)) _ _)
    obtain hS:=hS.flat2 hr10 hr12
    exact .inl ⟨want_none rfl,opick (b:=false) (v:=.bool false) rfl rfl (ev rfl hv10) (ev rfl hv12) ⟨_,_,rfl,isI,New.same _⟩⟩
   refine stepsCons rfl (fun Q f' w' ρ S ho hT hS hB => ?_) ?_
   ·obtain ⟨hv13,hr13⟩:=(hT 13 108 rfl rfl:(Is (.bool false)) _ _)
    obtain hS:=hS.flat1 hr13
    exact .inl ⟨want_none rfl,omove (v:=.bool false) rfl rfl (ev rfl hv13) ⟨_,_,rfl,isI,New.same _⟩⟩
   refine stepsCons rfl (fun Q f' w' ρ S ho hT hS hB => ?_) ?_
   ·obtain ⟨hv14,hr14⟩:=(hT 14 109 rfl rfl:(Is (.bool false)) _ _)
    obtain hS:=hS.flat1 hr14
    exact .inl ⟨want_on (e:=109) rfl rfl rfl hv14,omove (v:=.slice pc c9.length cc) rfl rfl (ev rfl (ho 9 rfl)) ⟨_,_,rfl,isI,New.same _⟩⟩
   refine stepsCons rfl (fun Q f' w' ρ S ho hT hS hB => ?_) ?_
   ·obtain ⟨hv14,hr14⟩:=(hT 14 109 rfl rfl:(Is (.bool false)) _ _)
    obtain ⟨hv15,hr15⟩:=(hT 15 110 rfl rfl:(Is (.slice pc c9.length cc)) _ _)
    obtain hS:=hS.flat2 hr14 hr15
    exact .inl ⟨want_on (e:=109) rfl rfl rfl hv14,olen rfl rfl rfl Tryd.runUnderlying30 (p:=pc) (k:=c9.length) (m:=cc) (ev rfl hv15) ⟨_,_,rfl,isI,New.same _⟩⟩
   refine stepsCons rfl (fun Q f' w' ρ S ho hT hS hB => ?_) ?_
   ·obtain ⟨hv14,hr14⟩:=(hT 14 109 rfl rfl:(Is (.bool false)) _ _)
    obtain hS:=hS.flat1 hr14
    exact .inl ⟨want_on (e:=109) rfl rfl rfl hv14,omove (v:=.int .i64 (nm:Int)) rfl rfl (ev rfl (ho 13 rfl)) ⟨_,_,rfl,isI,New.same _⟩⟩
   refine stepsCons rfl (fun Q f' w' ρ S ho hT hS hB => ?_) ?_
   ·obtain ⟨hv14,hr14⟩:=(hT 14 109 rfl rfl:(Is (.bool false)) _ _)
    obtain ⟨hv17,hr17⟩:=(hT 17 112 rfl rfl:(Is (.int .i64 (((nm:Nat):Int)))) _ _)
    obtain hS:=hS.flat2 hr14 hr17
    exact .inl ⟨want_on (e:=109) rfl rfl rfl hv14,obin (u:=.int .i64 (nm:Int)) (v:=.int .i64 1) (z:=.int .i64 (((nm + 1:Nat):Int))) rfl rfl (ev rfl hv17) evc (bin_add (wrap_i64 (by omega) (by omega))) ⟨_,_,rfl,isI,New.same _⟩⟩
   refine stepsCons rfl (fun Q f' w' ρ S ho hT hS hB => ?_) ?_
   ·obtain ⟨hv14,hr14⟩:=(hT 14 109 rfl rfl:(Is (.bool false)) _ _)
    obtain ⟨hv16,hr16⟩:=(hT 16 111 rfl rfl:(Is (.int .i64 (((c9.length:Nat):Int)))) _ _)
    obtain ⟨hv18,hr18⟩:=(hT 18 113 rfl rfl:(Is (.int .i64 (((nm + 1:Nat):Int)))) _ _)
    obtain hS:=hS.flat3 hr14 hr16 hr18
    exact .inl ⟨want_on (e:=109) rfl rfl rfl hv14,obin (u:=.int .i64 (c9.length:Int)) (v:=.int .i64 (((nm + 1:Nat):Int))) (z:=.bool false) rfl rfl (ev rfl hv16) (ev rfl hv18) (bin_neq (neF (by omega))) ⟨_,_,rfl,isI,New.same _⟩⟩
   refine stepsCons rfl (fun Q f' w' ρ S ho hT hS hB => ?_) ?_
   ·obtain ⟨hv14,hr14⟩:=(hT 14 109 rfl rfl:(Is (.bool false)) _ _)
    obtain ⟨hv19,hr19⟩:=(hT 19 114 rfl rfl:(Is (.bool false)) _ _)
    obtain hS:=hS.flat2 hr14 hr19
    exact .inl ⟨want_none rfl,opick (b:=false) (v:=.bool false) rfl rfl (ev rfl hv14) (ev rfl hv19) ⟨_,_,rfl,isI,New.same _⟩⟩
   refine stepsCons rfl (fun Q f' w' ρ S ho hT hS hB => ?_) ?_
   ·obtain ⟨hv20,hr20⟩:=(hT 20 115 rfl rfl:(Is (.bool false)) _ _)
    obtain hS:=hS.flat1 hr20
    exact .inl ⟨want_none rfl,omove (v:=.bool false) rfl rfl (ev rfl hv20) ⟨_,_,rfl,isI,New.same _⟩⟩
   refine stepsCons rfl (fun Q f' w' ρ S ho hT hS hB => ?_) ?_
   ·obtain ⟨hv21,hr21⟩:=(hT 21 116 rfl rfl:(Is (.bool false)) _ _)
    obtain hS:=hS.flat1 hr21
    exact .inl ⟨want_on (e:=116) rfl rfl rfl hv21,omove (v:=.slice pc c9.length cc) rfl rfl (ev rfl (ho 9 rfl)) ⟨_,_,rfl,isI,New.same _⟩⟩
   refine stepsCons rfl (fun Q f' w' ρ S ho hT hS hB => ?_) ?_
   ·obtain ⟨hv21,hr21⟩:=(hT 21 116 rfl rfl:(Is (.bool false)) _ _)
    obtain hS:=hS.flat1 hr21
    exact .inl ⟨want_on (e:=116) rfl rfl rfl hv21,omove (v:=.int .i64 (nm:Int)) rfl rfl (ev rfl (ho 13 rfl)) ⟨_,_,rfl,isI,New.same _⟩⟩
   refine stepsCons rfl (fun Q f' w' ρ S ho hT hS hB => ?_) ?_
   ·obtain ⟨hv21,hr21⟩:=(hT 21 116 rfl rfl:(Is (.bool false)) _ _)
    obtain ⟨hv22,hr22⟩:=(hT 22 117 rfl rfl:(Is (.slice pc c9.length cc)) _ _)
    obtain ⟨hv23,hr23⟩:=(hT 23 118 rfl rfl:(Is (.int .i64 (((nm:Nat):Int)))) _ _)
    obtain hS:=hS.flat3 hr21 hr22 hr23
    exact .inl ⟨want_on (e:=116) rfl rfl rfl hv21,oindex (p:=pc) (g:=bc) (off:=oc) (m:=c9.length) (k:=nm) (j:=(oc + nm * 1)) rfl rfl Tryd.runUnderlying30 Tryd.sizeOf24 (ev rfl hv22) (hpc) (ev rfl hv23) (by omega) rfl ⟨_,_,rfl,isI,New.same _⟩⟩
   refine stepsCons rfl (fun Q f' w' ρ S ho hT hS hB => ?_) ?_
   ·obtain ⟨hv21,hr21⟩:=(hT 21 116 rfl rfl:(Is (.bool false)) _ _)
    obtain ⟨hv24,hr24⟩:=(hT 24 119 rfl rfl:(Is (.pointer (some ⟨bc,(oc + nm * 1),none⟩))) _ _)
    obtain hS:=hS.flat2 hr21 hr24
    exact .inl ⟨want_on (e:=116) rfl rfl rfl hv21,oloadc (v:=.int .u32 (((nd c9 nm:Nat):Int))) one32 rfl rfl (ev (v:=.pointer (some ⟨bc,(oc + nm * 1),none⟩)) rfl hv24) ((hS.slo 3 rfl).ld hpc (by omega)) ⟨_,_,rfl,isI,New.same _⟩⟩
   refine stepsCons rfl (fun Q f' w' ρ S ho hT hS hB => ?_) ?_
   ·obtain ⟨hv21,hr21⟩:=(hT 21 116 rfl rfl:(Is (.bool false)) _ _)
    obtain hS:=hS.flat1 hr21
    exact .inl ⟨want_on (e:=116) rfl rfl rfl hv21,omove (v:=.int .u32 (p:Int)) rfl rfl (ev rfl (ho 1 rfl)) ⟨_,_,rfl,isI,New.same _⟩⟩
   refine stepsCons rfl (fun Q f' w' ρ S ho hT hS hB => ?_) ?_
   ·obtain ⟨hv21,hr21⟩:=(hT 21 116 rfl rfl:(Is (.bool false)) _ _)
    obtain ⟨hv26,hr26⟩:=(hT 26 121 rfl rfl:(Is (.int .u32 (((p:Nat):Int)))) _ _)
    obtain hS:=hS.flat2 hr21 hr26
    exact .inl ⟨want_on (e:=116) rfl rfl rfl hv21,obin (u:=.int .u32 1) (v:=.int .u32 (p:Int)) (z:=.int .u32 (((1 % p:Nat):Int))) rfl rfl evc (ev rfl hv26) (bin_rem (by omega) rfl) ⟨_,_,rfl,isI,New.same _⟩⟩
   refine stepsCons rfl (fun Q f' w' ρ S ho hT hS hB => ?_) ?_
   ·obtain ⟨hv21,hr21⟩:=(hT 21 116 rfl rfl:(Is (.bool false)) _ _)
    obtain ⟨hv25,hr25⟩:=(hT 25 120 rfl rfl:(Is (.int .u32 (((nd c9 nm:Nat):Int)))) _ _)
    obtain ⟨hv27,hr27⟩:=(hT 27 122 rfl rfl:(Is (.int .u32 (((1 % p:Nat):Int)))) _ _)
    obtain hS:=hS.flat3 hr21 hr25 hr27
    exact .inl ⟨want_on (e:=116) rfl rfl rfl hv21,obin (u:=.int .u32 (((nd c9 nm:Nat):Int))) (v:=.int .u32 (((1 % p:Nat):Int))) (z:=.bool false) rfl rfl (ev rfl hv25) (ev rfl hv27) (bin_neq (neF (by rw [hct,h1p]))) ⟨_,_,rfl,isI,New.same _⟩⟩
   refine stepsCons rfl (fun Q f' w' ρ S ho hT hS hB => ?_) ?_
   ·obtain ⟨hv21,hr21⟩:=(hT 21 116 rfl rfl:(Is (.bool false)) _ _)
    obtain ⟨hv28,hr28⟩:=(hT 28 123 rfl rfl:(Is (.bool false)) _ _)
    obtain hS:=hS.flat2 hr21 hr28
    exact .inl ⟨want_none rfl,opick (b:=false) (v:=.bool false) rfl rfl (ev rfl hv21) (ev rfl hv28) ⟨_,_,rfl,isI,New.same _⟩⟩
   exact stepsNil
  ·
   intro vs ρ w9 f' hf hT hS
   obtain ⟨hv0,hr0⟩:=(hT 0 (by decide):(Is (.int .i64 0)) _ _)
   obtain ⟨hv1,hr1⟩:=(hT 1 (by decide):(Is (.bool false)) _ _)
   obtain ⟨hv2,hr2⟩:=(hT 2 (by decide):(Is (.bool false)) _ _)
   obtain ⟨hv3,hr3⟩:=(hT 3 (by decide):(Is (.int .i64 0)) _ _)
   obtain ⟨hv4,hr4⟩:=(hT 4 (by decide):(Is (.bool false)) _ _)
   obtain ⟨hv5,hr5⟩:=(hT 5 (by decide):(Is (.bool false)) _ _)
   obtain ⟨hv6,hr6⟩:=(hT 6 (by decide):(Is (.bool false)) _ _)
   obtain ⟨hv7,hr7⟩:=(hT 7 (by decide):(Is (.int .i64 0)) _ _)
   obtain ⟨hv8,hr8⟩:=(hT 8 (by decide):(Is (.bool false)) _ _)
   obtain ⟨hv9,hr9⟩:=(hT 9 (by decide):(Is (.bool false)) _ _)
   obtain ⟨hv10,hr10⟩:=(hT 10 (by decide):(Is (.bool false)) _ _)
   obtain ⟨hv11,hr11⟩:=(hT 11 (by decide):(Is (.int .i64 0)) _ _)
   obtain ⟨hv12,hr12⟩:=(hT 12 (by decide):(Is (.bool false)) _ _)
   obtain ⟨hv13,hr13⟩:=(hT 13 (by decide):(Is (.bool false)) _ _)
   obtain ⟨hv14,hr14⟩:=(hT 14 (by decide):(Is (.bool false)) _ _)
   obtain ⟨hv15,hr15⟩:=(hT 15 (by decide):(Is (.slice pc c9.length cc)) _ _)
   obtain ⟨hv16,hr16⟩:=(hT 16 (by decide):(Is (.int .i64 (((c9.length:Nat):Int)))) _ _)
   obtain ⟨hv17,hr17⟩:=(hT 17 (by decide):(Is (.int .i64 (((nm:Nat):Int)))) _ _)
   obtain ⟨hv18,hr18⟩:=(hT 18 (by decide):(Is (.int .i64 (((nm + 1:Nat):Int)))) _ _)
   obtain ⟨hv19,hr19⟩:=(hT 19 (by decide):(Is (.bool false)) _ _)
   obtain ⟨hv20,hr20⟩:=(hT 20 (by decide):(Is (.bool false)) _ _)
   obtain ⟨hv21,hr21⟩:=(hT 21 (by decide):(Is (.bool false)) _ _)
   obtain ⟨hv22,hr22⟩:=(hT 22 (by decide):(Is (.slice pc c9.length cc)) _ _)
   obtain ⟨hv23,hr23⟩:=(hT 23 (by decide):(Is (.int .i64 (((nm:Nat):Int)))) _ _)
   obtain ⟨hv24,hr24⟩:=(hT 24 (by decide):(Is (.pointer (some ⟨bc,(oc + nm * 1),none⟩))) _ _)
   obtain ⟨hv25,hr25⟩:=(hT 25 (by decide):(Is (.int .u32 (((nd c9 nm:Nat):Int)))) _ _)
   obtain ⟨hv26,hr26⟩:=(hT 26 (by decide):(Is (.int .u32 (((p:Nat):Int)))) _ _)
   obtain ⟨hv27,hr27⟩:=(hT 27 (by decide):(Is (.int .u32 (((1 % p:Nat):Int)))) _ _)
   obtain ⟨hv28,hr28⟩:=(hT 28 (by decide):(Is (.bool false)) _ _)
   obtain ⟨hv29,hr29⟩:=(hT 29 (by decide):(Is (.bool false)) _ _)
   simp only [pool,if_true,hr0,hr1,hr2,hr3,hr4,hr5,hr6,hr7,hr8,hr9,hr10,hr11,hr12,hr13,hr14,hr15,hr16,hr17,hr18,hr19,hr20,hr21,hr22,hr23,hr24,hr25,hr26,hr27,hr28,hr29,List.nil_append,List.cons_append,List.append_nil] at hS
   simp only [layf,hv0,hv1,hv2,hv3,hv4,hv5,hv6,hv7,hv8,hv9,hv10,hv11,hv12,hv13,hv14,hv15,hv16,hv17,hv18,hv19,hv20,hv21,hv22,hv23,hv24,hv25,hv26,hv27,hv28,hv29] at hf
   subst hf; clear hT hv0 hv1 hv2 hv3 hv4 hv5 hv6 hv7 hv8 hv9 hv10 hv11 hv12 hv13 hv14 hv15 hv16 hv17 hv18 hv19 hv20 hv21 hv22 hv23 hv24 hv25 hv26 hv27 hv28 hv29 hr0 hr1 hr2 hr3 hr4 hr5 hr6 hr7 hr8 hr9 hr10 hr11 hr12 hr13 hr14 hr15 hr16 hr17 hr18 hr19 hr20 hr21 hr22 hr23 hr24 hr25 hr26 hr27 hr28 hr29
   refine wdone rfl ?_
   refine thenN ?_
   refine wF (ev rfl rfl) ?_
   refine wskip (thenN (wseq (wreg (wl rfl (omove (v:=.slice pc c9.length cc) rfl rfl (ev rfl rfl) ?_)))))
   refine wl rfl (omove (v:=.slice pd c9.length cd) rfl rfl (ev rfl rfl) ?_)
   refine wl rfl (ocall rfl rfl Tryd.call14 rfl (wqwords (hS.slo 3 rfl) (hS.slo 2 rfl) (by first | omega | decide)) (args2 (ev rfl rfl) (ev rfl rfl)) ?_)
   rintro _ w10 ⟨_,_,rfl,⟨rfl,rfl⟩,hN⟩
   refine ⟨_,rfl,?_⟩
   replace hS:=hS.news hN; clear hN
   refine wl rfl (omove (v:=.bool true) rfl rfl (ev rfl rfl) ?_)
   refine wlOn (e:=128) rfl rfl rfl rfl (omove (v:=.slice pc c9.length cc) rfl rfl (ev rfl rfl) ?_)
   refine wlOn (e:=128) rfl rfl rfl rfl (omove (v:=.slice px c9.length cx) rfl rfl (ev rfl rfl) ?_)
   refine wlOn (e:=128) rfl rfl rfl rfl (ocall rfl rfl Tryd.call14 rfl (wqwords (hS.slo 3 rfl) (hS.slo 0 rfl) (by first | omega | decide)) (args2 (ev rfl rfl) (ev rfl rfl)) ?_)
   rintro _ w11 ⟨_,_,rfl,⟨rfl,rfl⟩,hN⟩
   refine ⟨_,rfl,?_⟩
   replace hS:=hS.news hN; clear hN
   refine wl rfl (opick (b:=true) (v:=.bool true) rfl rfl (ev rfl rfl) (ev rfl rfl) ?_)
   refine wl rfl (omove (v:=.bool true) rfl rfl (ev rfl rfl) ?_)
   refine wlOn (e:=133) rfl rfl rfl rfl (omove (v:=.slice pc c9.length cc) rfl rfl (ev rfl rfl) ?_)
   refine wlOn (e:=133) rfl rfl rfl rfl (omove (v:=.int .i64 (nm:Int)) rfl rfl (ev rfl rfl) ?_)
   refine wlOn (e:=133) rfl rfl rfl rfl (obin (u:=.int .i64 (nm:Int)) (v:=.int .i64 1) (z:=.int .i64 (((nm - 1:Nat):Int))) rfl rfl (ev rfl rfl) evc (bin_sub (by rw [show (nm:Int) - 1 = ((nm - 1:Nat):Int) by omega]; exact wrap_i64 (by omega) (by omega))) ?_)
   refine wlOn (e:=133) rfl rfl rfl rfl (oindex (p:=pc) (g:=bc) (off:=oc) (m:=c9.length) (k:=nm - 1) (j:=(oc + (nm - 1) * 1)) rfl rfl Tryd.runUnderlying30 Tryd.sizeOf24 (ev rfl rfl) (hpc) (ev rfl rfl) (by omega) rfl ?_)
   refine wlOn (e:=133) rfl rfl rfl rfl (oloadc (v:=.int .u32 (((nd c9 (nm - 1):Nat):Int))) one32 rfl rfl (ev (v:=.pointer (some ⟨bc,(oc + (nm - 1) * 1),none⟩)) rfl rfl) ((hS.slo 3 rfl).ld hpc (by omega)) ?_)
   refine wlOn (e:=133) rfl rfl rfl rfl (oconvert (u:=.int .u32 (((nd c9 (nm - 1):Nat):Int))) (v:=.int .u64 (((nd c9 (nm - 1):Nat):Int))) rfl rfl (ev rfl rfl) (convert_int Tryd.runUnderlying24 Tryd.runUnderlying44 (wrap_u64 (by omega) (by omega))) ?_)
   refine wlOn (e:=133) rfl rfl rfl rfl (omove (v:=.int .u64 (trv:Int)) rfl rfl (ev rfl rfl) ?_)
   refine wlOn (e:=133) rfl rfl rfl rfl (obin (u:=.int .u64 (((nd c9 (nm - 1):Nat):Int))) (v:=.int .u64 (trv:Int)) (z:=.int .u64 (((nd c9 (nm - 1) + trv:Nat):Int))) rfl rfl (ev rfl rfl) (ev rfl rfl) (bin_add (wrap_u64 (by omega) (by omega))) ?_)
   refine wlOn (e:=133) rfl rfl rfl rfl (omove (v:=.int .u32 (p:Int)) rfl rfl (ev rfl rfl) ?_)
   refine wlOn (e:=133) rfl rfl rfl rfl (oconvert (u:=.int .u32 (p:Int)) (v:=.int .u64 (p:Int)) rfl rfl (ev rfl rfl) (convert_int Tryd.runUnderlying24 Tryd.runUnderlying44 (wrap_u64 (by omega) (by omega))) ?_)
   refine wlOn (e:=133) rfl rfl rfl rfl (obin (u:=.int .u64 (((nd c9 (nm - 1) + trv:Nat):Int))) (v:=.int .u64 (p:Int)) (z:=.int .u64 ((((nd c9 (nm - 1) + trv) % p:Nat):Int))) rfl rfl (ev rfl rfl) (ev rfl rfl) (bin_rem (by omega) rfl) ?_)
   refine wlOn (e:=133) rfl rfl rfl rfl (obin (u:=.int .u64 ((((nd c9 (nm - 1) + trv) % p:Nat):Int))) (v:=.int .u64 0) (z:=.bool true) rfl rfl (ev rfl rfl) evc (bin_eql (eqT (by rw [htv,htz]; rfl))) ?_)
   refine wl rfl (opick (b:=true) (v:=.bool true) rfl rfl (ev rfl rfl) (ev rfl rfl) ?_)
   refine wl rfl (omove (v:=.bool true) rfl rfl (ev rfl rfl) ?_)
   refine wlOn (e:=147) rfl rfl rfl rfl (ocall rfl rfl Tryd.call12 rfl (wllives (ht.at hS)) (args0 ) ?_)
   rintro _ w12 ⟨_,_,rfl,⟨rfl,rfl⟩,hN⟩
   refine ⟨_,rfl,?_⟩
   replace hS:=hS.news hN; clear hN
   refine wl rfl (opick (b:=true) (v:=.bool true) rfl rfl (ev rfl rfl) (ev rfl rfl) ?_)
   refine wl rfl (oassign (v:=.bool true) rfl rfl (ev rfl rfl) ?_)
   refine wnil (thenN ?_)
   refine wleave ?_
   refine wret1 Tryd.results5 (tellT (v:=.bool true) rfl rfl) ?_
   exact ⟨_,_,rfl,isI,hS.new0⟩
theorem hessSame_walk {pm:Option Addr} {nm cm:Nat} {s:Int} {M:List (List Nat)} {w:World} (hm:MS w pm nm M) (hs:SmallM M) (h1:Tab w) (h2:Bases w) (b1:0 ≤ s ∧ s ≤ 4294967295):Calls Tryd.prog 5 #[.slice pm nm cm,.int .u32 s] w (RetB w true):=by
 obtain ⟨p,rfl⟩:=Int.eq_ofNat_of_zero_le b1.1
 have hp2:p < 4294967296:=by omega
 have ht:Tb w:=⟨h1,h2⟩
 have hml:=hm.1
 obtain ⟨e,hc⟩:=HFa.ex p M
 by_cases he:e = 0
 ·subst he
  obtain ⟨hp,hr,h0,hq,hb⟩:=hc.zero
  exact Ret.bool (hessSame_ok ht hm hp2 hs hp hr (by omega) hq (by omega))
 ·exact Ret.bool (hessSame_e ht hm hp2 hs hc he)
end Go.Proofs.YtcfcdbeemhjhgaaDoor
