
/-
  The walk of similelaw22.BoundGrows.
-/
import Derived.Test.YthnilcgmljecdaaDoorB5
import Derived.Test.YthnilcgmljecdaaDoorLT
set_option linter.unusedVariables false
set_option linter.unusedSimpArgs false
set_option maxRecDepth 100000
set_option maxHeartbeats 16000000
namespace Go.Proofs.YthnilcgmljecdaaDoor
open Go.RowKit
theorem boundGrows_walk0 {pt:Option Addr} {nt ct a m:Nat} {RT:List (List (Bool × List Nat))} {w:World} (ht:Tb w) (hR:TRw w pt nt RT 1048576) (ha:a < 4294967296) (hm:m < 4294967296) :
  Calls Tryd.prog 5 #[.slice pt nt ct,.int .u32 ((a:Nat):Int),.int .u32 ((m:Nat):Int)] w (Ret (Is (.bool true)) w):=by
 have hT:=hR.tb (K2:=67108864) (by omega)
 have hRl:=hR.1
 have hRb:=hR.2.1
 have hTl:=hT.1
 obtain ⟨hb1,hb2⟩:=hR.bd
 have hS:=Sep.init w
 refine went Tryd.func5 rfl (n:=95) rfl rfl ?_
 refine wseq (wreg (wl rfl (oassign (v:=.bool false) rfl rfl evc ?_)))
 refine wnil (thenN (wseq (wseq (wreg (wl rfl (omove (v:=.slice pt nt ct) rfl rfl (ev rfl rfl) ?_))))))
 refine wl rfl (ocall rfl rfl Tryd.call14 rfl (wqfitG (hT.at hS)) (args1 (ev rfl rfl)) ?_)
 rintro _ w1 ⟨_,_,rfl,⟨rfl,rfl⟩,hN⟩
 refine ⟨_,rfl,?_⟩
 replace hS:=hS.news hN; clear hN
 by_cases hf:fitc (tvr RT) = 0
 ·
  refine wl rfl (obin (u:=.int .i64 ((fitc (tvr RT)))) (v:=.int .i64 0) (z:=.bool false) rfl rfl (ev rfl rfl) evc (bin_neq (neF hf)) ?_)
  refine wnil (thenN ?_)
  refine wF (ev rfl rfl) ?_
  refine wskip (thenN (wseq (wreg (wl rfl (omove (v:=.slice pt nt ct) rfl rfl (ev rfl rfl) ?_)))))
  refine wl rfl (olen rfl rfl rfl Tryd.runUnderlying36 (p:=pt) (k:=nt) (m:=ct) (ev rfl rfl) ?_)
  obtain ⟨hr,h0,h24⟩:=fitc_ok hf
  rw [hTl] at h0 h24
  have haq:=Nat.div_le_self a nt
  have hi0:=Nat.mod_lt a (show nt > 0 by omega)
  have hk0:=Nat.mod_lt (a / nt) (show nt > 0 by omega)
  have hTn:=hTl
  refine wl rfl (oconvert (u:=.int .i64 (nt:Int)) (v:=.int .u32 (nt:Int)) rfl rfl (ev rfl rfl) (convert_int Tryd.runUnderlying3 Tryd.runUnderlying34 (wrap_u32 (by omega) (by omega))) ?_)
  refine wl rfl (oassign (v:=.int .u32 (nt:Int)) rfl rfl (ev rfl rfl) ?_)
  refine wnil (thenN (wseq ?_))
  refine wstage 10 [26,27,28,29,30,31,32,33,8,9] [[],[],[0,1],[],[],[3,4],[],[5,6,3,4],[2,0,1],[7,0,1,2,3,4,5,6,8]] [[],[],[],[],[],[],[],[],[],[]] [] [] (fun i9 => ([fun _ => Is (.int .u32 (a:Int)),fun _ => Is (.int .u32 (nt:Int)),fun _ => Is (.int .u32 ((((a % nt):Nat):Int))),fun _ => Is (.int .u32 (a:Int)),fun _ => Is (.int .u32 (nt:Int)),fun _ => Is (.int .u32 ((((a / nt):Nat):Int))),fun _ => Is (.int .u32 (nt:Int)),fun _ => Is (.int .u32 ((((a / nt % nt):Nat):Int))),fun _ => Is (.int .u32 ((((a % nt):Nat):Int))),fun _ => Is (.int .u32 ((((a / nt % nt):Nat):Int)))]:List (List Value → Tell)).getD i9 (fun _ _ _ => False)) (heldNil) (fun d _ _ _ _ h => (by cases d <;> exact h)) (by kernel_rfl) (by kernel_rfl) (by kernel_rfl) hS ?_ ?_
  ·
   refine stepsCons rfl (fun Q f' w' ρ S ho hT hS hB => ?_) ?_
   ·exact .inl ⟨want_none rfl,omove (v:=.int .u32 (a:Int)) rfl rfl (ev rfl (ho 1 rfl)) ⟨_,_,rfl,isI,New.same _⟩⟩
   refine stepsCons rfl (fun Q f' w' ρ S ho hT hS hB => ?_) ?_
   ·exact .inl ⟨want_none rfl,omove (v:=.int .u32 (nt:Int)) rfl rfl (ev rfl (ho 7 rfl)) ⟨_,_,rfl,isI,New.same _⟩⟩
   refine stepsCons rfl (fun Q f' w' ρ S ho hT hS hB => ?_) ?_
   ·obtain ⟨hv0,hr0⟩:=(hT 0 26 rfl rfl:(Is (.int .u32 (((a:Nat):Int)))) _ _)
    obtain ⟨hv1,hr1⟩:=(hT 1 27 rfl rfl:(Is (.int .u32 (((nt:Nat):Int)))) _ _)
    obtain hS:=hS.flat2 hr0 hr1
    exact .inl ⟨want_none rfl,obin (u:=.int .u32 (a:Int)) (v:=.int .u32 (nt:Int)) (z:=.int .u32 ((((a % nt):Nat):Int))) rfl rfl (ev rfl hv0) (ev rfl hv1) (bin_rem (by omega) rfl) ⟨_,_,rfl,isI,New.same _⟩⟩
   refine stepsCons rfl (fun Q f' w' ρ S ho hT hS hB => ?_) ?_
   ·exact .inl ⟨want_none rfl,omove (v:=.int .u32 (a:Int)) rfl rfl (ev rfl (ho 1 rfl)) ⟨_,_,rfl,isI,New.same _⟩⟩
   refine stepsCons rfl (fun Q f' w' ρ S ho hT hS hB => ?_) ?_
   ·exact .inl ⟨want_none rfl,omove (v:=.int .u32 (nt:Int)) rfl rfl (ev rfl (ho 7 rfl)) ⟨_,_,rfl,isI,New.same _⟩⟩
   refine stepsCons rfl (fun Q f' w' ρ S ho hT hS hB => ?_) ?_
   ·obtain ⟨hv3,hr3⟩:=(hT 3 29 rfl rfl:(Is (.int .u32 (((a:Nat):Int)))) _ _)
    obtain ⟨hv4,hr4⟩:=(hT 4 30 rfl rfl:(Is (.int .u32 (((nt:Nat):Int)))) _ _)
    obtain hS:=hS.flat2 hr3 hr4
    exact .inl ⟨want_none rfl,obin (u:=.int .u32 (a:Int)) (v:=.int .u32 (nt:Int)) (z:=.int .u32 ((((a / nt):Nat):Int))) rfl rfl (ev rfl hv3) (ev rfl hv4) (bin_quo (by omega) (show IntKind.u32.wrap ((a / nt:Nat):Int) = _ from wrap_nat32 (by omega))) ⟨_,_,rfl,isI,New.same _⟩⟩
   refine stepsCons rfl (fun Q f' w' ρ S ho hT hS hB => ?_) ?_
   ·exact .inl ⟨want_none rfl,omove (v:=.int .u32 (nt:Int)) rfl rfl (ev rfl (ho 7 rfl)) ⟨_,_,rfl,isI,New.same _⟩⟩
   refine stepsCons rfl (fun Q f' w' ρ S ho hT hS hB => ?_) ?_
   ·obtain ⟨hv5,hr5⟩:=(hT 5 31 rfl rfl:(Is (.int .u32 ((((a / nt):Nat):Int)))) _ _)
    obtain ⟨hv6,hr6⟩:=(hT 6 32 rfl rfl:(Is (.int .u32 (((nt:Nat):Int)))) _ _)
    obtain hS:=hS.flat2 hr5 hr6
    exact .inl ⟨want_none rfl,obin (u:=.int .u32 ((((a / nt):Nat):Int))) (v:=.int .u32 (nt:Int)) (z:=.int .u32 ((((a / nt % nt):Nat):Int))) rfl rfl (ev rfl hv5) (ev rfl hv6) (bin_rem (by omega) rfl) ⟨_,_,rfl,isI,New.same _⟩⟩
   refine stepsCons rfl (fun Q f' w' ρ S ho hT hS hB => ?_) ?_
   ·obtain ⟨hv2,hr2⟩:=(hT 2 28 rfl rfl:(Is (.int .u32 ((((a % nt):Nat):Int)))) _ _)
    obtain hS:=hS.flat1 hr2
    exact .inl ⟨want_none rfl,oassign (v:=.int .u32 ((((a % nt):Nat):Int))) rfl rfl (ev rfl hv2) ⟨_,_,rfl,isI,New.same _⟩⟩
   refine stepsCons rfl (fun Q f' w' ρ S ho hT hS hB => ?_) ?_
   ·obtain ⟨hv7,hr7⟩:=(hT 7 33 rfl rfl:(Is (.int .u32 ((((a / nt % nt):Nat):Int)))) _ _)
    obtain hS:=hS.flat1 hr7
    exact .inl ⟨want_none rfl,oassign (v:=.int .u32 ((((a / nt % nt):Nat):Int))) rfl rfl (ev rfl hv7) ⟨_,_,rfl,isI,New.same _⟩⟩
   exact stepsNil
  ·
   intro vs ρ w2 f' hf hT hS
   obtain ⟨hv0,hr0⟩:=(hT 0 (by decide):(Is (.int .u32 (((a:Nat):Int)))) _ _)
   obtain ⟨hv1,hr1⟩:=(hT 1 (by decide):(Is (.int .u32 (((nt:Nat):Int)))) _ _)
   obtain ⟨hv2,hr2⟩:=(hT 2 (by decide):(Is (.int .u32 ((((a % nt):Nat):Int)))) _ _)
   obtain ⟨hv3,hr3⟩:=(hT 3 (by decide):(Is (.int .u32 (((a:Nat):Int)))) _ _)
   obtain ⟨hv4,hr4⟩:=(hT 4 (by decide):(Is (.int .u32 (((nt:Nat):Int)))) _ _)
   obtain ⟨hv5,hr5⟩:=(hT 5 (by decide):(Is (.int .u32 ((((a / nt):Nat):Int)))) _ _)
   obtain ⟨hv6,hr6⟩:=(hT 6 (by decide):(Is (.int .u32 (((nt:Nat):Int)))) _ _)
   obtain ⟨hv7,hr7⟩:=(hT 7 (by decide):(Is (.int .u32 ((((a / nt % nt):Nat):Int)))) _ _)
   obtain ⟨hv8,hr8⟩:=(hT 8 (by decide):(Is (.int .u32 ((((a % nt):Nat):Int)))) _ _)
   obtain ⟨hv9,hr9⟩:=(hT 9 (by decide):(Is (.int .u32 ((((a / nt % nt):Nat):Int)))) _ _)
   simp only [pool,if_true,hr0,hr1,hr2,hr3,hr4,hr5,hr6,hr7,hr8,hr9,List.nil_append,List.cons_append,List.append_nil] at hS
   simp only [layf,hv0,hv1,hv2,hv3,hv4,hv5,hv6,hv7,hv8,hv9] at hf
   subst hf; clear hT hv0 hv1 hv2 hv3 hv4 hv5 hv6 hv7 hv8 hv9 hr0 hr1 hr2 hr3 hr4 hr5 hr6 hr7 hr8 hr9
   refine wdone rfl ?_
   refine thenN (wseq (wreg (wl rfl (oassign (v:=.slice none 0 0) rfl rfl evc ?_))))
   refine wnil (thenN (wseq (wseq (wreg (wl rfl (omove (v:=.slice pt nt ct) rfl rfl (ev rfl rfl) ?_))))))
   refine wl rfl (olen rfl rfl rfl Tryd.runUnderlying36 (p:=pt) (k:=nt) (m:=ct) (ev rfl rfl) ?_)
   refine wl rfl (omove (v:=.int .i64 0) rfl rfl evc ?_)
   refine wnil (thenN (wblock ?_))
   replace hS:=hS.nilLst 38 1
   refine wloop (σ := Nat) (fun j a9 w' => ∃ (fb:Nat → Value) (U:List Ur) (pU:Option Addr) (cU:Nat),a9 = act 95 (sets fb [(0,.slice pt nt ct),(2,.int .u32 (m:Int)),(6,.bool false),(8,.int .u32 ((((a % nt):Nat):Int))),(9,.int .u32 ((((a / nt % nt):Nat):Int))),(10,.slice pU j cU),(34,.slice pt nt ct),(35,.int .i64 (nt:Int)),(36,.int .i64 (j:Int))]) ∧ Sep w [.lst 38 1 pU j cU (uuE U)] w' ∧ (j ≤ nt) ∧ (URs U (RT.take j))) (fun j => nt - j) (0) ⟨_,[],none,0,act_sets (l:=[(0,.slice pt nt ct),(2,.int .u32 (m:Int)),(6,.bool false),(8,.int .u32 ((((a % nt):Nat):Int))),(9,.int .u32 ((((a / nt % nt):Nat):Int))),(10,.slice none 0 0),(34,.slice pt nt ct),(35,.int .i64 (nt:Int)),(36,.int .i64 0)]) ⟨rfl,rfl,rfl,rfl,rfl,rfl,rfl,rfl,rfl,trivial⟩,hS,Nat.zero_le _,⟨rfl,fun _ _ _ h => by simp at h⟩⟩ ?_
   clear hS; rintro j _ w3 ⟨fb,U,pU,cU,rfl,hS,hj,hU⟩
   refine wseq (wreg ?_)
   by_cases hlj:j < nt
   ·
    obtain ⟨L,hL⟩:∃ L,RT[j]? = some L:=⟨_,List.getElem?_eq_getElem (by omega)⟩
    obtain ⟨bL,oL,qL,cL,hpL,hcL,hzL⟩:=hR.2.2 j L hL
    have hLb:=hb1 L (List.mem_of_getElem? hL)
    refine wl rfl (obin (u:=.int .i64 (j:Int)) (v:=.int .i64 (nt:Int)) (z:=.bool true) rfl rfl (ev rfl rfl) (ev rfl rfl) (bin_lss (decide_eq_true (by omega))) ?_)
    refine wnil (thenN (wseq ?_))
    refine wT (ev rfl rfl) ?_
    refine wskip (thenN (wseq (wblock (wseq (wreg (wl rfl (oindex (p:=pt) (g:=bL) (off:=oL) (m:=nt) (k:=j) (j:=(oL + j * 1)) rfl rfl Tryd.runUnderlying36 Tryd.sizeOf38 (ev rfl rfl) (hpL) (ev rfl rfl) (by omega) rfl ?_)))))))
    refine wl rfl (oloadc (v:=.slice qL L.length cL) (show One Tryd.prog 38 from ⟨Tryd.isAgg38,Tryd.sizeOf38⟩) rfl rfl (ev (v:=.pointer (some ⟨bL,(oL + j * 1),none⟩)) rfl rfl) (hS.cellAt (hcL 0 _ rfl)) ?_)
    refine wl rfl (oassign (v:=.slice qL L.length cL) rfl rfl (ev rfl rfl) ?_)
    refine wnil (thenN (wreg (wl rfl (omove (v:=.slice pU j cU) rfl rfl (ev rfl rfl) ?_))))
    refine wl rfl (omove (v:=.slice qL L.length cL) rfl rfl (ev rfl rfl) ?_)
    refine wl rfl (ocall rfl rfl Tryd.call15 rfl (wqCopyAll ((hzL.mono (by omega)).at hS)) (args1 (ev rfl rfl)) ?_)
    rintro _ w4 ⟨_,_,rfl,⟨gC,esC,heC,rfl,rfl⟩,hN⟩
    refine ⟨_,rfl,?_⟩
    replace hS:=hS.news hN; clear hN
    refine wl rfl (obslice (ps:=#[(0,.slice (some ⟨gC,0,none⟩) L.length L.length)]) (z:=.slice none 0 0) [.slice (some ⟨gC,0,none⟩) L.length L.length] hS rfl rfl Tryd.runUnderlying36 Tryd.sizeOf38 Tryd.zeroValue38 (parts1 (ev (v:=.slice (some ⟨gC,0,none⟩) L.length L.length) rfl rfl)) rfl (by decide) (fill1_1s rfl rfl) ?_)
    clear hS; intro g5 w6 hS
    obtain hS:=(show Sep w [.lst 28 2 (some ⟨gC,0,none⟩) L.length L.length esC,.lst 38 1 pU j cU (uuE U),.blk g5 [.slice (some ⟨gC,0,none⟩) L.length L.length] 38] w6 from hS.pick [1,2,0] (by decide) rfl)
    refine wl rfl (oappendL (p:=pU) (m:=j) (c:=cU) (g2:=g5) (c2:=1) (off:=0) [.slice (some ⟨gC,0,none⟩) L.length L.length] [.lst 28 2 (some ⟨gC,0,none⟩) L.length L.length esC] hS rfl rfl Tryd.underlying36 infoZRow rfl (by decide) (ev (v:=.slice pU j cU) rfl rfl) (ev (v:=.slice (some ⟨g5,0,none⟩) 1 1) rfl rfl) (fun j v hj => by rw [Nat.zero_add]; exact (blk_cell (hS.blkAt 2 rfl) j).trans hj) rfl rfl rfl (by omega) (by omega) ?_)
    clear hS; intro p8 c9 w7 hS
    refine wl rfl (oassign (v:=.slice p8 ((j + 1)) c9) rfl rfl (ev rfl rfl) ?_)
    refine wnil (blkN (thenN (wreg ?_)))
    rw [uu_snoc] at hS
    refine wl rfl (obin (u:=.int .i64 (j:Int)) (v:=.int .i64 1) (z:=.int .i64 (((j + 1:Nat):Int))) rfl rfl (ev rfl rfl) evc (bin_add (wrap_i64 (by omega) (by omega))) ?_)
    refine wl rfl (omove (v:=.int .i64 (((j + 1:Nat):Int))) rfl rfl (ev rfl rfl) ?_)
    refine wnil (thenN ?_)
    exact ⟨(j + 1),⟨_,_,_,_,act_sets (l:=[(0,.slice pt nt ct),(2,.int .u32 (m:Int)),(6,.bool false),(8,.int .u32 ((((a % nt):Nat):Int))),(9,.int .u32 ((((a / nt % nt):Nat):Int))),(10,.slice p8 ((j + 1)) c9),(34,.slice pt nt ct),(35,.int .i64 (nt:Int)),(36,.int .i64 (((j + 1:Nat):Int)))]) ⟨rfl,rfl,rfl,rfl,rfl,rfl,rfl,rfl,rfl,trivial⟩,hS.pick [0] (by decide) rfl,by omega,urs_snoc hU hL heC⟩,by omega⟩
   ·
    refine wl rfl (obin (u:=.int .i64 (j:Int)) (v:=.int .i64 (nt:Int)) (z:=.bool false) rfl rfl (ev rfl rfl) (ev rfl rfl) (bin_lss (decide_eq_false (by omega))) ?_)
    refine wnil (thenN (wseq ?_))
    refine wF (ev rfl rfl) ?_
    refine wexit ?_
    refine thenE ?_
    refine thenE ?_
    refine blkE ?_
    refine thenN (wseq (wreg (wl rfl (omove (v:=.slice pU j cU) rfl rfl (ev rfl rfl) ?_))))
    refine wl rfl (omove (v:=.int .u32 ((((a % nt):Nat):Int))) rfl rfl (ev rfl rfl) ?_)
    have hjn:j = nt:=by omega
    rw [show RT.take j = RT from List.take_of_length_le (by omega)] at hU
    have hUl:=hU.1
    obtain ⟨u,hu⟩:∃ u,U[a % nt]? = some u:=⟨_,List.getElem?_eq_getElem (by omega)⟩
    obtain ⟨L,hL⟩:∃ L,RT[a % nt]? = some L:=⟨_,List.getElem?_eq_getElem (by omega)⟩
    obtain ⟨hum,hue⟩:=hU.2 _ u L hu hL
    have hLn:L.length = nt:=by have h9:=hr _ (List.mem_of_getElem? (tvr_get hL)); rw [List.length_map] at h9; omega
    obtain ⟨e,he⟩:∃ e,L[a / nt % nt]? = some e:=⟨_,List.getElem?_eq_getElem (by omega)⟩
    obtain ⟨qe,ne,ce,hel⟩:=hue _ e (by omega) he
    have hle:=hb2 L (List.mem_of_getElem? hL) e (List.mem_of_getElem? he)
    obtain ⟨gU,hgU⟩:=hS.lstPtr 0 rfl (by omega)
    replace hS:=hS.uOpen hu
    have hWe:=(hS.elzZr (K:=1048576) 0 rfl hel hle).wd
    have hUg:(U.map urV)[a % nt]? = some (.slice (some ⟨u.g,0,none⟩) u.m u.m):=by rw [List.getElem?_map,hu]; rfl
    have hIl:=hS.lstLen 0 rfl
    refine wl rfl (oindexU (p:=pU) (g:=gU) (off:=0) (m:=j) (k:=(a % nt)) (j:=(0 + (a % nt))) rfl rfl Tryd.runUnderlying36 Tryd.sizeOf38 (ev (v:=.slice pU j cU) rfl rfl) (hgU) (ev (v:=.int .u32 ((((a % nt):Nat):Int))) rfl rfl) ((by omega)) (by rw [Nat.mul_one]) ?_)
    refine wl rfl (oloadc (v:=.slice (some ⟨u.g,0,none⟩) u.m u.m) (show One Tryd.prog 38 from ⟨Tryd.isAgg38,Tryd.sizeOf38⟩) rfl rfl (ev (v:=.pointer (some ⟨gU,(0 + (a % nt)),none⟩)) rfl rfl) (hS.ownAt 1 rfl hgU _ _ hUg) ?_)
    refine wl rfl (omove (v:=.int .u32 ((((a / nt % nt):Nat):Int))) rfl rfl (ev rfl rfl) ?_)
    refine wl rfl (oindexU (p:=(some ⟨u.g,0,none⟩)) (g:=u.g) (off:=0) (m:=u.m) (k:=(a / nt % nt)) (j:=(0 + (a / nt % nt) * 2)) rfl rfl Tryd.runUnderlying38 Tryd.sizeOf28 (ev (v:=.slice (some ⟨u.g,0,none⟩) u.m u.m) rfl rfl) (rfl) (ev (v:=.int .u32 ((((a / nt % nt):Nat):Int))) rfl rfl) ((by omega)) rfl ?_)
    refine wl rfl (oloadA (vs:=[.bool e.1,.slice qe ne ce]) aggZ rfl rfl (ev (v:=.pointer (some ⟨u.g,(0 + (a / nt % nt) * 2),none⟩)) rfl rfl) (hS.lstAtA 0 rfl rfl (a / nt % nt) hel (by decide) (by omega)) rfl ?_)
    refine wl rfl (oalloc [.bool false,.slice none 0 0] hS rfl rfl Tryd.zeroValue28 rfl ?_)
    clear hS; intro g4 w5 hS
    refine wl rfl (ostore [.bool e.1,.slice qe ne ce] [.bool e.1,.slice qe ne ce] Tryd.sizeOf28 hS 0 rfl rfl (ev rfl rfl) (ev (v:=.agg #[.bool e.1,.slice qe ne ce]) rfl rfl) rfl rfl rfl rfl rfl rfl ?_)
    clear hS; intro w6 hS
    refine wnil (thenN (wseq (wreg (wl rfl (ofieldAddr (g:=g4) (off:=0) 0 rfl rfl (ev rfl rfl) Tryd.runUnderlying28 rfl Tryd.sizeOf4 rfl ?_)))))
    refine wl rfl (oload1 (v:=.bool e.1) oneB hS 0 rfl rfl (ev rfl rfl) rfl rfl ?_)
    refine wl rfl (omove (v:=.int .u32 (m:Int)) rfl rfl (ev rfl rfl) ?_)
    refine wl rfl (obslice (ps:=#[(0,.int .u32 (m:Int))]) (z:=.int .u32 0) [.int .u32 (m:Int)] hS rfl rfl Tryd.runUnderlying26 Tryd.sizeOf34 Tryd.zeroValue34 (parts1 (ev (v:=.int .u32 (m:Int)) rfl rfl)) rfl (by decide) (fill1_1s rfl rfl) ?_)
    clear hS; intro g7 w8 hS
    refine wl rfl (obuild (ps:=#[(0,.bool e.1),(1,.slice (some ⟨g7,0,none⟩) 1 1)]) (v:=.agg #[.bool e.1,.slice (some ⟨g7,0,none⟩) 1 1]) rfl rfl (parts2 (ev (v:=.bool e.1) rfl rfl) (ev (v:=.slice (some ⟨g7,0,none⟩) 1 1) rfl rfl)) (fun w => by simp [go_sem,Instr.build,Instr.fill]) ?_)
    obtain ⟨z1,hz1⟩:∃ z:Int,Hid (zv e.1 (val [m]) = z):=⟨_,rfl⟩
    have hNr:Zr w8 e.1 (some ⟨g7,0,none⟩) 1 1 (zv e.1 (val [m])) 2:=⟨[m],Sl.blk1 (hS.blkAt 0 rfl) hm,rfl,by decide⟩
    have hk1:Wd z1 2:=Wd.same hNr.wd hz1
    refine wl rfl (ocall rfl rfl Tryd.call16 rfl (wqnorm (hNr.mono (by omega)) hz1) (args1 (ev rfl rfl)) ?_)
    rintro _ w9 ⟨_,_,rfl,⟨p1,n1,c1,rfl,rfl⟩,hN⟩
    refine ⟨_,rfl,?_⟩
    replace hS:=hS.news hN; clear hN
    refine wl rfl (oalloc [.bool false,.slice none 0 0] hS rfl rfl Tryd.zeroValue28 rfl ?_)
    clear hS; intro g10 w11 hS
    refine wl rfl (ostore [.bool (ng z1),.slice p1 n1 c1] [.bool (ng z1),.slice p1 n1 c1] Tryd.sizeOf28 hS 0 rfl rfl (ev rfl rfl) (ev (v:=.agg #[.bool (ng z1),.slice p1 n1 c1]) rfl rfl) rfl rfl rfl rfl rfl rfl ?_)
    clear hS; intro w12 hS
    refine wnil (thenN (wseq ?_))
    obtain ⟨z2,hz2⟩:∃ z:Int,Hid (((zvr e)) + z1 = z):=⟨_,rfl⟩
    have hk2:Wd z2 1048577:=Wd.add hWe hk1 hz2 (by omega)
    refine wstage 9 [59,60,61,62,63,64,65,66,67] [[],[],[0,1],[2,0,1],[],[],[],[5,6],[3,4,0,1,2,5,6,7]] [[],[],[],[],[],[],[],[],[]] [] [] (fun i9 => ([fun _ => Is (.slice pU j cU),fun _ => Is (.int .u32 ((((a % nt):Nat):Int))),fun _ => Is (.pointer (some ⟨gU,(0 + (a % nt)),none⟩)),fun _ => Is (.slice (some ⟨u.g,0,none⟩) u.m u.m),fun _ => Is (.int .u32 ((((a / nt % nt):Nat):Int))),fun _ => Is (.agg #[.bool e.1,.slice qe ne ce]),fun _ => Is (.agg #[.bool (ng z1),.slice p1 n1 c1]),fun _ => Zm z2,fun _ => Is (.pointer (some ⟨u.g,(0 + (a / nt % nt) * 2),none⟩))]:List (List Value → Tell)).getD i9 (fun _ _ _ => False)) (heldNil) (fun d _ _ _ _ h => (by cases d <;> exact h)) (by kernel_rfl) (by kernel_rfl) (by kernel_rfl) hS ?_ ?_
    ·
     refine stepsCons rfl (fun Q f' w' ρ S ho hT hS hB => ?_) ?_
     ·exact .inl ⟨want_none rfl,omove (v:=.slice pU j cU) rfl rfl (ev rfl (ho 10 rfl)) ⟨_,_,rfl,isI,New.same _⟩⟩
     refine stepsCons rfl (fun Q f' w' ρ S ho hT hS hB => ?_) ?_
     ·exact .inl ⟨want_none rfl,omove (v:=.int .u32 ((((a % nt):Nat):Int))) rfl rfl (ev rfl (ho 8 rfl)) ⟨_,_,rfl,isI,New.same _⟩⟩
     refine stepsCons rfl (fun Q f' w' ρ S ho hT hS hB => ?_) ?_
     ·obtain ⟨hv0,hr0⟩:=(hT 0 59 rfl rfl:(Is (.slice pU j cU)) _ _)
      obtain ⟨hv1,hr1⟩:=(hT 1 60 rfl rfl:(Is (.int .u32 ((((a % nt):Nat):Int)))) _ _)
      obtain hS:=hS.flat2 hr0 hr1
      exact .inl ⟨want_none rfl,oindexU (p:=pU) (g:=gU) (off:=0) (m:=j) (k:=(a % nt)) (j:=(0 + (a % nt))) rfl rfl Tryd.runUnderlying36 Tryd.sizeOf38 (ev (v:=.slice pU j cU) rfl hv0) (hgU) (ev (v:=.int .u32 ((((a % nt):Nat):Int))) rfl hv1) ((by omega)) (by rw [Nat.mul_one]) ⟨_,_,rfl,isI,New.same _⟩⟩
     refine stepsCons rfl (fun Q f' w' ρ S ho hT hS hB => ?_) ?_
     ·obtain ⟨hv2,hr2⟩:=(hT 2 61 rfl rfl:(Is (.pointer (some ⟨gU,(0 + (a % nt)),none⟩))) _ _)
      obtain hS:=hS.flat1 hr2
      exact .inl ⟨want_none rfl,oloadc (v:=.slice (some ⟨u.g,0,none⟩) u.m u.m) (show One Tryd.prog 38 from ⟨Tryd.isAgg38,Tryd.sizeOf38⟩) rfl rfl (ev (v:=.pointer (some ⟨gU,(0 + (a % nt)),none⟩)) rfl hv2) (hS.ownAt 5 rfl hgU _ _ hUg) ⟨_,_,rfl,isI,New.same _⟩⟩
     refine stepsCons rfl (fun Q f' w' ρ S ho hT hS hB => ?_) ?_
     ·exact .inl ⟨want_none rfl,omove (v:=.int .u32 ((((a / nt % nt):Nat):Int))) rfl rfl (ev rfl (ho 9 rfl)) ⟨_,_,rfl,isI,New.same _⟩⟩
     refine stepsCons rfl (fun Q f' w' ρ S ho hT hS hB => ?_) ?_
     ·exact .inl ⟨want_none rfl,oload (vs:=[.bool e.1,.slice qe ne ce]) aggZ hS 3 rfl rfl (ev rfl (ho 13 rfl)) rfl rfl rfl ⟨_,_,rfl,isI,New.same _⟩⟩
     refine stepsCons rfl (fun Q f' w' ρ S ho hT hS hB => ?_) ?_
     ·exact .inl ⟨want_none rfl,oload (vs:=[.bool (ng z1),.slice p1 n1 c1]) aggZ hS 0 rfl rfl (ev rfl (ho 14 rfl)) rfl rfl rfl ⟨_,_,rfl,isI,New.same _⟩⟩
     refine stepsCons rfl (fun Q f' w' ρ S ho hT hS hB => ?_) ?_
     ·obtain ⟨hv5,hr5⟩:=(hT 5 64 rfl rfl:(Is (.agg #[.bool e.1,.slice qe ne ce])) _ _)
      obtain ⟨hv6,hr6⟩:=(hT 6 65 rfl rfl:(Is (.agg #[.bool (ng z1),.slice p1 n1 c1])) _ _)
      obtain hS:=hS.flat2 hr5 hr6
      exact .inl ⟨want_none rfl,ocall rfl rfl Tryd.call17 rfl ((wqadd ((hS.elzZr 4 rfl hel hle).mono (by omega)) (((hS.sl 1 rfl).zr hk1).mono (by omega)) hz2).mono Zt.m) (args2 (ev rfl hv5) (ev rfl hv6)) callN⟩
     refine stepsCons rfl (fun Q f' w' ρ S ho hT hS hB => ?_) ?_
     ·obtain ⟨hv3,hr3⟩:=(hT 3 62 rfl rfl:(Is (.slice (some ⟨u.g,0,none⟩) u.m u.m)) _ _)
      obtain ⟨hv4,hr4⟩:=(hT 4 63 rfl rfl:(Is (.int .u32 ((((a / nt % nt):Nat):Int)))) _ _)
      obtain hS:=hS.flat2 hr3 hr4
      exact .inl ⟨want_none rfl,oindexU (p:=(some ⟨u.g,0,none⟩)) (g:=u.g) (off:=0) (m:=u.m) (k:=(a / nt % nt)) (j:=(0 + (a / nt % nt) * 2)) rfl rfl Tryd.runUnderlying38 Tryd.sizeOf28 (ev (v:=.slice (some ⟨u.g,0,none⟩) u.m u.m) rfl hv3) (rfl) (ev (v:=.int .u32 ((((a / nt % nt):Nat):Int))) rfl hv4) ((by omega)) rfl ⟨_,_,rfl,isI,New.same _⟩⟩
     exact stepsNil
    ·
     intro vs ρ w13 f' hf hT hS
     obtain ⟨hv0,hr0⟩:=(hT 0 (by decide):(Is (.slice pU j cU)) _ _)
     obtain ⟨hv1,hr1⟩:=(hT 1 (by decide):(Is (.int .u32 ((((a % nt):Nat):Int)))) _ _)
     obtain ⟨hv2,hr2⟩:=(hT 2 (by decide):(Is (.pointer (some ⟨gU,(0 + (a % nt)),none⟩))) _ _)
     obtain ⟨hv3,hr3⟩:=(hT 3 (by decide):(Is (.slice (some ⟨u.g,0,none⟩) u.m u.m)) _ _)
     obtain ⟨hv4,hr4⟩:=(hT 4 (by decide):(Is (.int .u32 ((((a / nt % nt):Nat):Int)))) _ _)
     obtain ⟨hv5,hr5⟩:=(hT 5 (by decide):(Is (.agg #[.bool e.1,.slice qe ne ce])) _ _)
     obtain ⟨hv6,hr6⟩:=(hT 6 (by decide):(Is (.agg #[.bool (ng z1),.slice p1 n1 c1])) _ _)
     obtain ⟨p2,n2,c2,hv7,hr7⟩:=(hT 7 (by decide):(Zm z2) _ _)
     obtain ⟨hv8,hr8⟩:=(hT 8 (by decide):(Is (.pointer (some ⟨u.g,(0 + (a / nt % nt) * 2),none⟩))) _ _)
     simp only [pool,if_true,hr0,hr1,hr2,hr3,hr4,hr5,hr6,hr7,hr8,List.nil_append,List.cons_append,List.append_nil] at hS
     simp only [layf,hv0,hv1,hv2,hv3,hv4,hv5,hv6,hv7,hv8] at hf
     subst hf; clear hT hv0 hv1 hv2 hv3 hv4 hv5 hv6 hv7 hv8 hr0 hr1 hr2 hr3 hr4 hr5 hr6 hr7 hr8
     obtain hS:=(show Sep w [.rowm p2 n2 c2 (lim z2.natAbs),.lst 28 2 (some ⟨u.g,0,none⟩) u.m u.m u.es,.blk g10 [.bool (ng z1),.slice p1 n1 c1] 28,.row p1 n1 c1 (lim z1.natAbs),.blk g7 [.int .u32 (((m:Nat):Int))] 34,.blk g4 [.bool e.1,.slice qe ne ce] 28,.own' 38 1 pU j cU (U.map urV),.pack ((U.eraseIdx (a % nt)).map urR)] w13 from hS.pick [0,5,1,2,3,4,6,7] (by decide) rfl)
     refine wlate 9 rfl (by kernel_rfl) (ostoreL (i:=(a / nt % nt)) (g:=u.g) [.bool (ng z2),.slice p2 n2 c2] [.rowm p2 n2 c2 (lim z2.natAbs)] Tryd.sizeOf28 hS rfl rfl (ev (v:=.pointer (some ⟨u.g,(0 + (a / nt % nt) * 2),none⟩)) rfl rfl) (ev (v:=.agg #[.bool (ng z2),.slice p2 n2 c2]) rfl rfl) (rfl) rfl rfl rfl rfl (by omega) rfl ?_)
     clear hS; intro w14 hS
     refine ⟨heldNil,?_⟩
     refine wdone rfl ?_
     refine thenN (wseq (wreg (wl rfl (omove (v:=.slice pt nt ct) rfl rfl (ev rfl rfl) ?_))))
     obtain hS:=(show Sep w [.lst 28 2 (some ⟨u.g,0,none⟩) u.m u.m ((u.es).set ((a / nt % nt)) ⟨[.bool (ng z2),.slice p2 n2 c2],[.rowm p2 n2 c2 (lim z2.natAbs)]⟩),.own' 38 1 pU j cU (U.map urV),.pack ((U.eraseIdx (a % nt)).map urR),.blk g10 [.bool (ng z1),.slice p1 n1 c1] 28,.row p1 n1 c1 (lim z1.natAbs),.blk g7 [.int .u32 (((m:Nat):Int))] 34,.blk g4 [.bool e.1,.slice qe ne ce] 28] w14 from hS.pick [0,5,6,1,2,3,4] (by decide) rfl)
     replace hS:=hS.uClose (es:=u.es.set (a / nt % nt) (elZ (ng z2) p2 n2 c2 (lim z2.natAbs))) hu (by omega)
     have hU2:=urs_set (b:=ng z2) (q:=p2) (n:=n2) (c:=c2) (xs:=lim z2.natAbs) hU hu hL (k:=a / nt % nt) (by omega)
     obtain ⟨hb3,hb4⟩:=tset_bd (k:=a / nt % nt) (b:=ng z2) (xs:=lim z2.natAbs) (K2:=67108864) hb1 hb2 hL (by rw [length_lim]; exact hk2.mono (by omega)) (by omega)
     have hy9:=more_abs hz1 hz2
     have hgrow:mxA (coefs (tvr RT)) (nt + 1) ≤ mxA (coefs (tvr (RT.set (a % nt) (L.set (a / nt % nt) (ng z2,lim z2.natAbs))))) (nt + 1):=by
      rw [tvr_set]
      exact bound_grows (tvr_get hL) (by rw [List.getD,List.getElem?_map,he]; exact hy9)
     have hr2:∀ M ∈ tvr (RT.set (a % nt) (L.set (a / nt % nt) (ng z2,lim z2.natAbs))),M.length = nt:=by rw [tvr_set]; exact tset_rows (tvr_get hL) (fun M hM => (hr M hM).trans (by omega))
     obtain ⟨V,hV⟩:∃ V,RT.set (a % nt) (L.set (a / nt % nt) (ng z2,lim z2.natAbs)) = V:=⟨_,rfl⟩
     rw [hV] at hU2 hb3 hb4 hgrow hr2
     obtain ⟨U2,hV2⟩:∃ U2,U.set (a % nt) ⟨u.g,u.m,u.es.set (a / nt % nt) (elZ (ng z2) p2 n2 c2 (lim z2.natAbs))⟩ = U2:=⟨_,rfl⟩
     rw [hV2] at hU2 hS
     have hrn:∀ M ∈ tvr RT,M.length = nt:=fun M hM => (hr M hM).trans hTl
     have hkB1:Wd (mxA (coefs (tvr RT)) (nt + 1)) 2000000000:=mxA_wd (coefs_wd hT hrn (by omega)) _
     refine wl rfl (ocall rfl rfl Tryd.call18 rfl (wbbound (hT.at hS) hrn (by omega) (by omega)) (args1 (ev rfl rfl)) ?_)
     rintro _ w15 ⟨_,_,rfl,⟨pB1,nB1,cB1,rfl,rfl⟩,hN⟩
     refine ⟨_,rfl,?_⟩
     replace hS:=hS.news hN; clear hN
     refine wl rfl (omove (v:=.tuple #[.agg #[.bool (ng ((mxA (coefs (tvr RT)) (nt + 1)))),.slice pB1 nB1 cB1],.int .i64 0]) rfl rfl (ev rfl rfl) ?_)
     refine wl rfl (oextract (vs:=[.agg #[.bool (ng ((mxA (coefs (tvr RT)) (nt + 1)))),.slice pB1 nB1 cB1],.int .i64 0]) (v:=.agg #[.bool (ng ((mxA (coefs (tvr RT)) (nt + 1)))),.slice pB1 nB1 cB1]) rfl rfl (ev rfl rfl) rfl ?_)
     refine wl rfl (oextract (vs:=[.agg #[.bool (ng ((mxA (coefs (tvr RT)) (nt + 1)))),.slice pB1 nB1 cB1],.int .i64 0]) (v:=.int .i64 0) rfl rfl (ev rfl rfl) rfl ?_)
     refine wl rfl (oalloc [.bool false,.slice none 0 0] hS rfl rfl Tryd.zeroValue28 rfl ?_)
     clear hS; intro g16 w17 hS
     refine wl rfl (ostore [.bool (ng ((mxA (coefs (tvr RT)) (nt + 1)))),.slice pB1 nB1 cB1] [.bool (ng ((mxA (coefs (tvr RT)) (nt + 1)))),.slice pB1 nB1 cB1] Tryd.sizeOf28 hS 0 rfl rfl (ev rfl rfl) (ev (v:=.agg #[.bool (ng ((mxA (coefs (tvr RT)) (nt + 1)))),.slice pB1 nB1 cB1]) rfl rfl) rfl rfl rfl rfl rfl rfl ?_)
     clear hS; intro w18 hS
     refine wl rfl (oassign (v:=.int .i64 0) rfl rfl (ev rfl rfl) ?_)
     refine wnil (thenN (wseq (wreg (wl rfl (omove (v:=.slice pU j cU) rfl rfl (ev rfl rfl) ?_)))))
     have hTV:TB w18 pU nt (tvr V) 67108864:=hjn ▸ hS.uTB (K:=67108864) 2 rfl hU2 (by omega) hb3 hb4
     have hkB2:Wd (mxA (coefs (tvr V)) (nt + 1)) 2000000000:=mxA_wd (coefs_wd hTV hr2 (by omega)) _
     refine wl rfl (ocall rfl rfl Tryd.call18 rfl ((show Calls _ _ #[.slice pU j cU] _ _ from by rw [hjn]; exact wbbound hTV hr2 (by omega) (by omega))) (args1 (ev rfl rfl)) ?_)
     rintro _ w19 ⟨_,_,rfl,⟨pB2,nB2,cB2,rfl,rfl⟩,hN⟩
     refine ⟨_,rfl,?_⟩
     replace hS:=hS.news hN; clear hN
     refine wl rfl (omove (v:=.tuple #[.agg #[.bool (ng ((mxA (coefs (tvr V)) (nt + 1)))),.slice pB2 nB2 cB2],.int .i64 0]) rfl rfl (ev rfl rfl) ?_)
     refine wl rfl (oextract (vs:=[.agg #[.bool (ng ((mxA (coefs (tvr V)) (nt + 1)))),.slice pB2 nB2 cB2],.int .i64 0]) (v:=.agg #[.bool (ng ((mxA (coefs (tvr V)) (nt + 1)))),.slice pB2 nB2 cB2]) rfl rfl (ev rfl rfl) rfl ?_)
     refine wl rfl (oextract (vs:=[.agg #[.bool (ng ((mxA (coefs (tvr V)) (nt + 1)))),.slice pB2 nB2 cB2],.int .i64 0]) (v:=.int .i64 0) rfl rfl (ev rfl rfl) rfl ?_)
     refine wl rfl (oalloc [.bool false,.slice none 0 0] hS rfl rfl Tryd.zeroValue28 rfl ?_)
     clear hS; intro g20 w21 hS
     refine wl rfl (ostore [.bool (ng ((mxA (coefs (tvr V)) (nt + 1)))),.slice pB2 nB2 cB2] [.bool (ng ((mxA (coefs (tvr V)) (nt + 1)))),.slice pB2 nB2 cB2] Tryd.sizeOf28 hS 0 rfl rfl (ev rfl rfl) (ev (v:=.agg #[.bool (ng ((mxA (coefs (tvr V)) (nt + 1)))),.slice pB2 nB2 cB2]) rfl rfl) rfl rfl rfl rfl rfl rfl ?_)
     clear hS; intro w22 hS
     refine wl rfl (oassign (v:=.int .i64 0) rfl rfl (ev rfl rfl) ?_)
     refine wnil (thenN (wseq (wreg (wl rfl (omove (v:=.int .i64 0) rfl rfl (ev rfl rfl) ?_)))))
     refine wl rfl (ocall rfl rfl Tryd.call9 rfl (wbnum) (args1 (ev rfl rfl)) ?_)
     rintro _ w23 ⟨_,_,rfl,⟨rfl,rfl⟩,hN⟩
     refine ⟨_,rfl,?_⟩
     replace hS:=hS.news hN; clear hN
     refine wl rfl (obin (u:=.int .i64 0) (v:=.int .i64 0) (z:=.bool true) rfl rfl (ev rfl rfl) evc (bin_eql (by decide)) ?_)
     refine wl rfl (omove (v:=.bool true) rfl rfl (ev rfl rfl) ?_)
     refine wlOn (e:=81) rfl rfl rfl rfl (omove (v:=.int .i64 0) rfl rfl (ev rfl rfl) ?_)
     refine wlOn (e:=81) rfl rfl rfl rfl (ocall rfl rfl Tryd.call9 rfl (wbnum) (args1 (ev rfl rfl)) ?_)
     rintro _ w24 ⟨_,_,rfl,⟨rfl,rfl⟩,hN⟩
     refine ⟨_,rfl,?_⟩
     replace hS:=hS.news hN; clear hN
     refine wlOn (e:=81) rfl rfl rfl rfl (obin (u:=.int .i64 0) (v:=.int .i64 0) (z:=.bool true) rfl rfl (ev rfl rfl) evc (bin_eql (by decide)) ?_)
     refine wl rfl (opick (b:=true) (v:=.bool true) rfl rfl (ev rfl rfl) (ev rfl rfl) ?_)
     refine wl rfl (omove (v:=.bool true) rfl rfl (ev rfl rfl) ?_)
     refine wlOn (e:=86) rfl rfl rfl rfl (oload (vs:=[.bool (ng ((mxA (coefs (tvr RT)) (nt + 1)))),.slice pB1 nB1 cB1]) aggZ hS 2 rfl rfl (ev rfl rfl) rfl rfl rfl ?_)
     refine wlOn (e:=86) rfl rfl rfl rfl (oload (vs:=[.bool (ng ((mxA (coefs (tvr V)) (nt + 1)))),.slice pB2 nB2 cB2]) aggZ hS 0 rfl rfl (ev rfl rfl) rfl rfl rfl ?_)
     obtain ⟨s3,hs3⟩:∃ z:Int,Hid (cmpZ ((mxA (coefs (tvr RT)) (nt + 1))) ((mxA (coefs (tvr V)) (nt + 1))) = z):=⟨_,rfl⟩
     refine wlOn (e:=86) rfl rfl rfl rfl (ocall rfl rfl Tryd.call19 rfl (wqcmp (((hS.sl 3 rfl).zr hkB1).mono (by omega)) (((hS.sl 1 rfl).zr hkB2).mono (by omega)) hs3) (args2 (ev rfl rfl) (ev rfl rfl)) ?_)
     rintro _ w25 ⟨_,_,rfl,⟨rfl,rfl⟩,hN⟩
     refine ⟨_,rfl,?_⟩
     replace hS:=hS.news hN; clear hN
     refine wlOn (e:=86) rfl rfl rfl rfl (obin (u:=.int .i64 s3) (v:=.int .i64 0) (z:=.bool true) rfl rfl (ev rfl rfl) evc (bin_leq ((cmpZ_leD hs3).trans (decide_eq_true hgrow))) ?_)
     refine wl rfl (opick (b:=true) (v:=.bool true) rfl rfl (ev rfl rfl) (ev rfl rfl) ?_)
     refine wl rfl (omove (v:=.bool true) rfl rfl (ev rfl rfl) ?_)
     refine wlOn (e:=92) rfl rfl rfl rfl (ocall rfl rfl Tryd.call10 rfl (wbawake (ht.at hS)) (args0 ) ?_)
     rintro _ w26 ⟨_,_,rfl,⟨rfl,rfl⟩,hN⟩
     refine ⟨_,rfl,?_⟩
     replace hS:=hS.news hN; clear hN
     refine wl rfl (opick (b:=true) (v:=.bool true) rfl rfl (ev rfl rfl) (ev rfl rfl) ?_)
     refine wl rfl (oassign (v:=.bool true) rfl rfl (ev rfl rfl) ?_)
     refine wnil (thenN ?_)
     refine wleave ?_
     refine wret1 Tryd.results5 (tellT (v:=.bool true) rfl rfl) ?_
     exact ⟨_,_,rfl,isI,hS.new0⟩
 ·
  refine wl rfl (obin (u:=.int .i64 ((fitc (tvr RT)))) (v:=.int .i64 0) (z:=.bool true) rfl rfl (ev rfl rfl) evc (bin_neq (neT hf)) ?_)
  refine wnil (thenN ?_)
  refine wT (ev rfl rfl) ?_
  refine wseq (wreg (wl rfl (ocall rfl rfl Tryd.call10 rfl (wbawake (ht.at hS)) (args0 ) ?_)))
  rintro _ w2 ⟨_,_,rfl,⟨rfl,rfl⟩,hN⟩
  refine ⟨_,rfl,?_⟩
  replace hS:=hS.news hN; clear hN
  refine wl rfl (oassign (v:=.bool true) rfl rfl (ev rfl rfl) ?_)
  refine wnil (thenN ?_)
  refine wleave ?_
  refine thenR ?_
  refine wret1 Tryd.results5 (tellT (v:=.bool true) rfl rfl) ?_
  exact ⟨_,_,rfl,isI,hS.new0⟩
theorem boundGrows_walk {pt:Option Addr} {nt ct:Nat} {x y:Int} {RT:List (List (Bool × List Nat))} {w:World} (hR:TRw w pt nt RT 1048576) (h1:Tab w) (h2:Bases w) (hx:0 ≤ x ∧ x ≤ 4294967295) (hy:0 ≤ y ∧ y ≤ 4294967295):Calls Tryd.prog 5 #[.slice pt nt ct,.int .u32 x,.int .u32 y] w (RetB w true):=by
  obtain ⟨a,rfl⟩:∃ a:Nat,x = a:=⟨x.toNat,by omega⟩
  obtain ⟨m,rfl⟩:∃ m:Nat,y = m:=⟨y.toNat,by omega⟩
  exact Ret.bool (boundGrows_walk0 ⟨h1,h2⟩ hR (by omega) (by omega))
end Go.Proofs.YthnilcgmljecdaaDoor
