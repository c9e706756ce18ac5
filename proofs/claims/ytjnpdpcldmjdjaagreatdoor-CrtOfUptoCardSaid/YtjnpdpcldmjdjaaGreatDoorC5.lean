/-
  Contracts and lemmas, joined in one text.
-/
import Derived.Test.YtjnpdpcldmjdjaaGreatDoorC3
import Derived.Test.YtjnpdpcldmjdjaaGreatDoorC4
set_option linter.unusedVariables false
set_option linter.unusedSimpArgs false
/-
  The document's Of and Digits.
-/
set_option maxRecDepth 100000
set_option maxHeartbeats 16000000
namespace Go.Proofs.YtjnpdpcldmjdjaaGreatDoor
open Go.RowKit
def RfT (L:List (Nat × Nat)):Tell:=fun v r => ∃ g p1 n1 c1 p2 n2 c2 p3 c3,v = .tuple #[.pointer (some ⟨g,0,none⟩),.int .i64 0] ∧ r = [.blk g [.slice p1 n1 c1,.slice p2 n2 c2,.slice p3 L.length c3] 37,.lst 45 2 p3 L.length c3 (rpE (rps L)),.row p1 n1 c1 (lim (cv L).1),.row p2 n2 c2 (lim (cv L).2)]
def DgU (L:List (Nat × Nat)):Tell:=fun v r => ∃ p c,v = .slice p L.length c ∧ r = [.lst 38 1 p L.length c (dgE (dgs L))]
theorem Sep.dupRow {w0 w:World} {R:List Res} (h:Sep w0 R w) (k:Nat) {p:Option Addr} {n c:Nat} {xs:List Nat} (hk:R[k]? = some (.row p n c xs)):Sep w0 (.row p n c xs :: R) w:=by
 have hm:(Res.row p n c xs) ∈ R:=List.mem_of_getElem? hk
 exact ⟨h.below,fun r hr => (List.mem_cons.1 hr).elim (fun e => by subst e; exact h.holds _ hm) (h.holds r),fun r hr => (List.mem_cons.1 hr).elim (fun e => by subst e; exact h.low _ hm) (h.low r),List.pairwise_cons.2 ⟨fun s hs => by
  obtain ⟨i,hi,rfl⟩:=List.getElem_of_mem hs
  obtain ⟨hk',he⟩:=List.getElem?_eq_some_iff.1 hk
  rcases Nat.lt_trichotomy k i with h1 | h1 | h1
  ·have:=List.pairwise_iff_getElem.1 h.apart k i hk' hi h1
   rwa [he] at this
  ·subst h1; rw [he]; intro hb; simp [Res.row] at hb
  have:=List.pairwise_iff_getElem.1 h.apart i k hi hk' h1
  rw [he] at this; exact this.symm,h.apart⟩⟩
theorem wkrestD {p:Option Addr} {n c q D:Nat} {z:Int} {k:Nat} {w:World} (h:Sl w p n c (lim z.natAbs)) (hk:Wd z k) (hz:z = ((D:Nat):Int)) (hkk:k ≤ 549755813000) (hq:q < 4294967296) (hD:D < q):Calls Tryz.prog 20 #[.slice p n c,.int .u32 (q:Int)] w (Ret (Is (.int .u32 ((D:Nat):Int))) w):=by
  subst hz
  unfold Wd at hk
  rw [Int.natAbs_natCast] at h hk
  have h1:=wkrest (h.nr (Nat.le_trans hk hkk)) hq (by omega)
  rwa [Nat.mod_eq_of_lt hD] at h1
theorem dig_div {a m D:Nat} {b:Nat} {z:Int} (e:b = a + m * D) (h1:((b:Nat):Int) - ((a:Nat):Int) = z) (h0:0 < m):Int.tmod z ((m:Nat):Int) = 0 ∧ Int.tdiv z ((m:Nat):Int) = ((D:Nat):Int):=by
  have hz:z = ((m:Nat):Int) * ((D:Nat):Int):=by rw [← h1,e,Int.natCast_add,Int.natCast_mul]; omega
  subst hz
  exact ⟨Int.mul_tmod_right _ _,Int.mul_tdiv_cancel_left _ (by omega)⟩
theorem dgE_snoc {l:List Nat} {d:Nat}:dgE l ++ [⟨[.int .u32 ((d:Nat):Int)],[]⟩] = dgE (l ++ [d]):=by simp [dgE]
theorem wkof {p:Option Addr} {n c:Nat} {L:List (Nat × Nat)} {w:World} (ht:Tb w) (hL:RS w p n L) (h32:∀ x ∈ L,x.1 < 4294967296 ∧ x.2 < 4294967296) (hlen:L.length ≤ 1048576) (hgd:Gd L) :
  Calls Tryz.prog 6 #[.slice p n c] w (Ret (RfT L) w):=by
 have hS:=Sep.init w
 refine went Tryz.func6 rfl (n:=26) rfl rfl ?_
 refine wsr (wavc ?_)
 refine wavc ?_
 refine wn2 (wcl Tryz.call11 (wknew) (args0 ) hS ?_)
 clear hS; rintro _ _ w1 ⟨gF,pM0,nM0,cM0,rfl,rfl⟩ hS
 refine wav rfl rfl ?_
 refine wn1 (wSq (wsr (wmv rfl rfl ?_)))
 refine wl rfl (olen rfl rfl rfl Tryz.runUnderlying22 (p:=p) (k:=n) (m:=c) (ev rfl rfl) ?_)
 refine wmvc ?_
 refine wn1 (wBk ?_)
 replace hS:=hS.nilLst 45 2
 replace hS:=hS.nilRow0
 refine wLp (σ := Nat) (fun i a9 w' => ∃ (fb:Nat → Value) (K:List (Nat × Nat)) (pV:Option Addr) (nV:Nat) (cV:Nat) (pM:Option Addr) (nM:Nat) (cM:Nat) (pF:Option Addr) (cF:Nat),a9 = act 26 (sets fb [(4,.pointer (some ⟨gF,0,none⟩)),(9,.slice p n c),(10,.int .i64 (n:Int)),(11,.int .i64 (i:Int))]) ∧ Sep w [.row pV nV cV (lim (cv K).1),.lst 45 2 pF K.length cF (rpE (rps K)),.blk gF [.slice pV nV cV,.slice pM nM cM,.slice pF K.length cF] 37,.row pM nM cM (lim (cv K).2)] w' ∧ (i ≤ n) ∧ (Okl K) ∧ (K = L.take i)) (fun i => n - i) (0) ⟨_,[],none,0,0,pM0,nM0,cM0,none,0,aSs ⟨rfl,rfl,rfl,rfl,trivial⟩,hS,Nat.zero_le _,Okl.nil,by simp⟩ ?_
 clear hS; rintro i _ w2 ⟨fb,K,pV,nV,cV,pM,nM,cM,pF,cF,rfl,hS,hi,hok,hKt⟩
 refine wsr ?_
 by_cases hlt:i < n
 ·
  have hn1:=hL.1
  obtain ⟨x,hx⟩:∃ x,L[i]? = some x:=⟨_,List.getElem?_eq_getElem (by omega)⟩
  obtain ⟨b,off,hpx,hcx⟩:=hL.2.2 _ x hx
  have hx32:=h32 x (List.mem_of_getElem? hx)
  obtain ⟨K2,hK2⟩:∃ K2,Hid (nxt K (x.1,x.2) = K2):=⟨_,rfl⟩
  obtain ⟨e2,he2⟩:∃ e2:Nat,Hid (eno (mods K) x.2 = e2):=⟨_,rfl⟩
  have hok2:Okl K2:=by rw [← hK2.out]; exact hok.nxt hx32.2 (by rw [hKt,List.length_take]; omega)
  have hkl:=hok.len
  have hwV:=hok.wV
  have hwM:=hok.wM
  have hwV2:=hok2.wV
  have hwM2:=hok2.wM
  have hkz:e2 = 0 → K2 = L.take (i + 1):=fun h => by rw [← hK2.out,nxt_ok (by rw [he2.out]; exact h),take_next hx,hKt]
  have hz0:e2 = 0:=by rw [← he2.out,hKt]; obtain ⟨h1,h2⟩:=gd_at hgd hx; exact eno_ok h1 h2
  subst hz0
  have hK3:=hkz rfl
  refine wbt rfl rfl rfl rfl (bLs (decide_eq_true (by omega))) ?_
  refine wn1 (wSq ?_)
  refine wT (ev rfl rfl) ?_
  refine wk2 (wl rfl (oIx (p:=p) (g:=b) (off:=off) (m:=n) (k:=i) (j:=(off + i * 2)) rfl rfl Tryz.runUnderlying22 Tryz.sizeOf45 (ev rfl rfl) hpx (ev rfl rfl) hlt rfl ?_))
  refine wl rfl (oloadA ⟨Tryz.isAgg45,Tryz.sizeOf45⟩ rfl rfl (ev rfl rfl) (fun j v hj => hS.cellAt (hcx j v hj)) rfl ?_)
  refine wl rfl (oAl [.int .u32 0,.int .u32 0] hS rfl rfl Tryz.zeroValue45 rfl ?_)
  clear hS; intro g3 w4 hS
  refine wl rfl (oSt _ _ Tryz.sizeOf45 hS 0 rfl rfl (ev rfl rfl) (ev rfl rfl) rfl rfl rfl rfl rfl rfl ?_)
  clear hS; intro w5 hS
  refine wn2 (wmv rfl rfl ?_)
  refine wl rfl (oFA (g:=g3) (off:=0) 0 rfl rfl (ev rfl rfl) Tryz.runUnderlying45 rfl Tryz.sizeOf38 rfl ?_)
  refine wl rfl (oL1 one32 hS 0 rfl rfl (ev rfl rfl) rfl rfl ?_)
  refine wl rfl (oFA (g:=g3) (off:=0) 1 rfl rfl (ev rfl rfl) Tryz.runUnderlying45 rfl Tryz.sizeOf38 rfl ?_)
  refine wl rfl (oL1 one32 hS 0 rfl rfl (ev rfl rfl) rfl rfl ?_)
  obtain hS:=(show Sep w [.blk gF [.slice pV nV cV,.slice pM nM cM,.slice pF K.length cF] 37,.lst 45 2 pF K.length cF (rpE (rps K)),.row pV nV cV (lim (cv K).1),.row pM nM cM (lim (cv K).2),.blk g3 [.int .u32 (((x.1:Nat):Int)),.int .u32 (((x.2:Nat):Int))] 45] w5 from hS.pick [3,2,1,4,0] (by decide) rfl)
  refine wl rfl (oCl rfl rfl Tryz.call12 rfl (wkaddA hok (by rw [hKt,List.length_take]; omega) hx32.1 hx32.2 hK2 he2 hS) (args3 (ev rfl rfl) (ev rfl rfl) (ev rfl rfl)) ?_)
  rintro _ w6 ⟨_,_,rfl,⟨pV2,nV2,cV2,pM2,nM2,cM2,pF2,cF2,rfl,rfl⟩,hN⟩
  refine ⟨_,rfl,?_⟩
  clear hS; have hS:=hN; clear hN
  refine wav rfl rfl ?_
  refine wn2 (wmv rfl rfl ?_)
  refine wbc rfl rfl (bNe (neF (by omega))) ?_
  refine wn1 ?_
  refine wF (ev rfl rfl) ?_
  refine wSk (blkN (tNo (wreg (wbc (z:=.int .i64 ((i + 1:Nat):Int)) rfl rfl (bAd (wI6 (by omega) (by omega))) ?_))))
  refine wmv rfl rfl ?_
  refine wn1 ?_
  exact ⟨(i + 1),⟨_,_,_,_,_,_,_,_,_,_,aSs ⟨rfl,rfl,rfl,rfl,trivial⟩,hS.pick [2,1,0,3] (by decide) rfl,by omega,hok2,hK3⟩,by omega⟩
 refine wbt rfl rfl rfl rfl (bLs (decide_eq_false (by omega))) ?_
 refine wn1 (wSq ?_)
 refine wF (ev rfl rfl) ?_
 refine wEx ?_
 refine tEx ?_
 refine tEx ?_
 refine blkE ?_
 refine tNo (wsr (wmv rfl rfl ?_))
 refine wav rfl rfl ?_
 refine wavc ?_
 refine wn1 ?_
 refine wLv ?_
 obtain rfl:K = L:=hKt.trans (List.take_of_length_le (by have:=hL.1; omega))
 refine wret2 Tryz.results6 (tlT (v:=.pointer (some ⟨gF,0,none⟩)) rfl rfl) (tlT (v:=.int .i64 0) rfl rfl) ?_
 exact ⟨_,_,rfl,⟨_,_,_,_,_,_,_,_,_,rfl,rfl⟩,(show Sep w [.blk gF [.slice pV nV cV,.slice pM nM cM,.slice pF K.length cF] 37,.lst 45 2 pF K.length cF (rpE (rps K)),.row pV nV cV (lim (cv K).1),.row pM nM cM (lim (cv K).2)] w2 from hS.pick [2,1,0,3] (by decide) rfl).new rfl⟩
theorem wkofE {p:Option Addr} {n c:Nat} {L:List (Nat × Nat)} {w:World} (ht:Tb w) (hL:RS w p n L) (h32:∀ x ∈ L,x.1 < 4294967296 ∧ x.2 < 4294967296) (hlen:L.length ≤ 1048576) (hne:code [] L ≠ 0) :
  Calls Tryz.prog 6 #[.slice p n c] w (Ret (Is (.tuple #[.pointer none,.int .i64 ((code [] L:Nat):Int)])) w):=by
 have hS:=Sep.init w
 refine went Tryz.func6 rfl (n:=26) rfl rfl ?_
 refine wsr (wavc ?_)
 refine wavc ?_
 refine wn2 (wcl Tryz.call11 (wknew) (args0 ) hS ?_)
 clear hS; rintro _ _ w1 ⟨gF,pM0,nM0,cM0,rfl,rfl⟩ hS
 refine wav rfl rfl ?_
 refine wn1 (wSq (wsr (wmv rfl rfl ?_)))
 refine wl rfl (olen rfl rfl rfl Tryz.runUnderlying22 (p:=p) (k:=n) (m:=c) (ev rfl rfl) ?_)
 refine wmvc ?_
 refine wn1 (wBk ?_)
 replace hS:=hS.nilLst 45 2
 replace hS:=hS.nilRow0
 refine wLp (σ := Nat) (fun i a9 w' => ∃ (fb:Nat → Value) (K:List (Nat × Nat)) (pV:Option Addr) (nV:Nat) (cV:Nat) (pM:Option Addr) (nM:Nat) (cM:Nat) (pF:Option Addr) (cF:Nat),a9 = act 26 (sets fb [(4,.pointer (some ⟨gF,0,none⟩)),(9,.slice p n c),(10,.int .i64 (n:Int)),(11,.int .i64 (i:Int))]) ∧ Sep w [.row pV nV cV (lim (cv K).1),.lst 45 2 pF K.length cF (rpE (rps K)),.blk gF [.slice pV nV cV,.slice pM nM cM,.slice pF K.length cF] 37,.row pM nM cM (lim (cv K).2)] w' ∧ (i ≤ n) ∧ (Okl K) ∧ (K = L.take i)) (fun i => n - i) (0) ⟨_,[],none,0,0,pM0,nM0,cM0,none,0,aSs ⟨rfl,rfl,rfl,rfl,trivial⟩,hS,Nat.zero_le _,Okl.nil,by simp⟩ ?_
 clear hS; rintro i _ w2 ⟨fb,K,pV,nV,cV,pM,nM,cM,pF,cF,rfl,hS,hi,hok,hKt⟩
 refine wsr ?_
 by_cases hlt:i < n
 ·
  have hn1:=hL.1
  obtain ⟨x,hx⟩:∃ x,L[i]? = some x:=⟨_,List.getElem?_eq_getElem (by omega)⟩
  obtain ⟨b,off,hpx,hcx⟩:=hL.2.2 _ x hx
  have hx32:=h32 x (List.mem_of_getElem? hx)
  obtain ⟨K2,hK2⟩:∃ K2,Hid (nxt K (x.1,x.2) = K2):=⟨_,rfl⟩
  obtain ⟨e2,he2⟩:∃ e2:Nat,Hid (eno (mods K) x.2 = e2):=⟨_,rfl⟩
  have hok2:Okl K2:=by rw [← hK2.out]; exact hok.nxt hx32.2 (by rw [hKt,List.length_take]; omega)
  have hkl:=hok.len
  have hwV:=hok.wV
  have hwM:=hok.wM
  have hwV2:=hok2.wV
  have hwM2:=hok2.wM
  have hkz:e2 = 0 → K2 = L.take (i + 1):=fun h => by rw [← hK2.out,nxt_ok (by rw [he2.out]; exact h),take_next hx,hKt]
  refine wbt rfl rfl rfl rfl (bLs (decide_eq_true (by omega))) ?_
  refine wn1 (wSq ?_)
  refine wT (ev rfl rfl) ?_
  refine wk2 (wl rfl (oIx (p:=p) (g:=b) (off:=off) (m:=n) (k:=i) (j:=(off + i * 2)) rfl rfl Tryz.runUnderlying22 Tryz.sizeOf45 (ev rfl rfl) hpx (ev rfl rfl) hlt rfl ?_))
  refine wl rfl (oloadA ⟨Tryz.isAgg45,Tryz.sizeOf45⟩ rfl rfl (ev rfl rfl) (fun j v hj => hS.cellAt (hcx j v hj)) rfl ?_)
  refine wl rfl (oAl [.int .u32 0,.int .u32 0] hS rfl rfl Tryz.zeroValue45 rfl ?_)
  clear hS; intro g3 w4 hS
  refine wl rfl (oSt _ _ Tryz.sizeOf45 hS 0 rfl rfl (ev rfl rfl) (ev rfl rfl) rfl rfl rfl rfl rfl rfl ?_)
  clear hS; intro w5 hS
  refine wn2 (wmv rfl rfl ?_)
  refine wl rfl (oFA (g:=g3) (off:=0) 0 rfl rfl (ev rfl rfl) Tryz.runUnderlying45 rfl Tryz.sizeOf38 rfl ?_)
  refine wl rfl (oL1 one32 hS 0 rfl rfl (ev rfl rfl) rfl rfl ?_)
  refine wl rfl (oFA (g:=g3) (off:=0) 1 rfl rfl (ev rfl rfl) Tryz.runUnderlying45 rfl Tryz.sizeOf38 rfl ?_)
  refine wl rfl (oL1 one32 hS 0 rfl rfl (ev rfl rfl) rfl rfl ?_)
  obtain hS:=(show Sep w [.blk gF [.slice pV nV cV,.slice pM nM cM,.slice pF K.length cF] 37,.lst 45 2 pF K.length cF (rpE (rps K)),.row pV nV cV (lim (cv K).1),.row pM nM cM (lim (cv K).2),.blk g3 [.int .u32 (((x.1:Nat):Int)),.int .u32 (((x.2:Nat):Int))] 45] w5 from hS.pick [3,2,1,4,0] (by decide) rfl)
  refine wl rfl (oCl rfl rfl Tryz.call12 rfl (wkaddA hok (by rw [hKt,List.length_take]; omega) hx32.1 hx32.2 hK2 he2 hS) (args3 (ev rfl rfl) (ev rfl rfl) (ev rfl rfl)) ?_)
  rintro _ w6 ⟨_,_,rfl,⟨pV2,nV2,cV2,pM2,nM2,cM2,pF2,cF2,rfl,rfl⟩,hN⟩
  refine ⟨_,rfl,?_⟩
  clear hS; have hS:=hN; clear hN
  refine wav rfl rfl ?_
  refine wn2 (wmv rfl rfl ?_)
  by_cases hz0:e2 = 0
  ·
   have hK3:=hkz hz0
   refine wbc rfl rfl (bNe (neF (by omega))) ?_
   refine wn1 ?_
   refine wF (ev rfl rfl) ?_
   refine wSk (blkN (tNo (wreg (wbc (z:=.int .i64 ((i + 1:Nat):Int)) rfl rfl (bAd (wI6 (by omega) (by omega))) ?_))))
   refine wmv rfl rfl ?_
   refine wn1 ?_
   exact ⟨(i + 1),⟨_,_,_,_,_,_,_,_,_,_,aSs ⟨rfl,rfl,rfl,rfl,trivial⟩,hS.pick [2,1,0,3] (by decide) rfl,by omega,hok2,hK3⟩,by omega⟩
  refine wbc rfl rfl (bNe (neT (by omega))) ?_
  refine wn1 ?_
  refine wT (ev rfl rfl) ?_
  refine wsr (wmv rfl rfl ?_)
  refine wavc ?_
  refine wav rfl rfl ?_
  refine wn1 ?_
  refine wLv ?_
  refine blkR ?_
  refine thenR ?_
  refine thenR ?_
  refine blkR ?_
  refine thenR ?_
  have hcode:code [] L = e2:=(code_bad hx (hKt ▸ hok.gd) (by rw [← hKt,he2.out]; exact hz0)).trans (by rw [← hKt]; exact he2.out)
  refine wret2 Tryz.results6 (tlT (v:=.pointer none) rfl rfl) (tlT (v:=.int .i64 (e2:Int)) rfl rfl) ?_
  exact ⟨_,_,rfl,⟨by rw [hcode],rfl⟩,hS.new0⟩
 refine wbt rfl rfl rfl rfl (bLs (decide_eq_false (by omega))) ?_
 refine wn1 (wSq ?_)
 refine wF (ev rfl rfl) ?_
 refine wEx ?_
 refine tEx ?_
 refine tEx ?_
 refine blkE ?_
 refine tNo (wsr (wmv rfl rfl ?_))
 refine wav rfl rfl ?_
 refine wavc ?_
 refine wn1 ?_
 refine wLv ?_
 exact absurd (code_gd.2 (by have hKL:K = L:=hKt.trans (List.take_of_length_le (by have:=hL.1; omega)); exact hKL ▸ hok.gd)) hne
theorem wkdigits {p:Option Addr} {n c:Nat} {L:List (Nat × Nat)} {w:World} (ht:Tb w) (hL:RS w p n L) (h32:∀ x ∈ L,x.1 < 4294967296 ∧ x.2 < 4294967296) (hlen:L.length ≤ 1048576) (hgd:Gd L) :
  Calls Tryz.prog 8 #[.slice p n c] w (Ret (DgU L) w):=by
 have hS:=Sep.init w
 refine went Tryz.func8 rfl (n:=70) rfl rfl ?_
 refine wsr (wavc ?_)
 refine wn2 (wavc ?_)
 refine wn2 (wcl Tryz.call11 (wknew) (args0 ) hS ?_)
 clear hS; rintro _ _ w1 ⟨gL,pM0,nM0,cM0,rfl,rfl⟩ hS
 refine wav rfl rfl ?_
 refine wn1 (wSq (wsr (wmv rfl rfl ?_)))
 refine wl rfl (olen rfl rfl rfl Tryz.runUnderlying22 (p:=p) (k:=n) (m:=c) (ev rfl rfl) ?_)
 refine wmvc ?_
 refine wn1 (wBk ?_)
 replace hS:=hS.nilLst 45 2
 replace hS:=hS.nilLst 38 1
 replace hS:=hS.nilRow0
 refine wLp (σ := Nat) (fun i a9 w' => ∃ (fb:Nat → Value) (K:List (Nat × Nat)) (pV:Option Addr) (nV:Nat) (cV:Nat) (pM:Option Addr) (nM:Nat) (cM:Nat) (pF:Option Addr) (cF:Nat) (gL:Nat) (pO:Option Addr) (nO:Nat) (cO:Nat),a9 = act 70 (sets fb [(2,.slice none 0 0),(3,.slice pO nO cO),(4,.pointer (some ⟨gL,0,none⟩)),(12,.slice p n c),(13,.int .i64 (n:Int)),(14,.int .i64 (i:Int))]) ∧ Sep w [.row pV nV cV (lim (cv K).1),.lst 38 1 pO nO cO (dgE (dgs K)),.lst 45 2 pF K.length cF (rpE (rps K)),.blk gL [.slice pV nV cV,.slice pM nM cM,.slice pF K.length cF] 37,.row pM nM cM (lim (cv K).2)] w' ∧ (i ≤ n) ∧ (Okl K) ∧ (K = L.take i) ∧ (nO = K.length)) (fun i => n - i) (0) ⟨_,[],none,0,0,pM0,nM0,cM0,none,0,gL,none,0,0,aSs ⟨rfl,rfl,rfl,rfl,rfl,rfl,trivial⟩,hS,Nat.zero_le _,Okl.nil,by simp,rfl⟩ ?_
 clear hS; rintro i _ w2 ⟨fb,K,pV,nV,cV,pM,nM,cM,pF,cF,gL,pO,nO,cO,rfl,hS,hi,hok,hKt,hnO⟩
 refine wsr ?_
 by_cases hlt:i < n
 ·
  have hn1:=hL.1
  obtain ⟨x,hx⟩:∃ x,L[i]? = some x:=⟨_,List.getElem?_eq_getElem (by omega)⟩
  obtain ⟨b,off,hpx,hcx⟩:=hL.2.2 _ x hx
  have hx32:=h32 x (List.mem_of_getElem? hx)
  obtain ⟨K2,hK2⟩:∃ K2,Hid (nxt K (x.1,x.2) = K2):=⟨_,rfl⟩
  obtain ⟨e2,he2⟩:∃ e2:Nat,Hid (eno (mods K) x.2 = e2):=⟨_,rfl⟩
  have hok2:Okl K2:=by rw [← hK2.out]; exact hok.nxt hx32.2 (by rw [hKt,List.length_take]; omega)
  have hkl:=hok.len
  have hwV:=hok.wV
  have hwM:=hok.wM
  have hwV2:=hok2.wV
  have hwM2:=hok2.wM
  have hkz:e2 = 0 → K2 = L.take (i + 1):=fun h => by rw [← hK2.out,nxt_ok (by rw [he2.out]; exact h),take_next hx,hKt]
  have hz0:e2 = 0:=by rw [← he2.out,hKt]; obtain ⟨h1,h2⟩:=gd_at hgd hx; exact eno_ok h1 h2
  subst hz0
  have hK3:=hkz rfl
  have hp2:=(gd_at hgd hx).1.1
  obtain ⟨D,hD⟩:∃ D:Nat,Hid (dig (cv K).1 (cv K).2 x.1 x.2 = D):=⟨_,rfl⟩
  have hDp:D < x.2:=by rw [← hD.out]; exact dig_lt (by omega)
  have hK4:K2 = K ++ [x]:=by rw [hK3,take_next hx,hKt]
  have hc1:(cv K2).1 = (cv K).1 + (cv K).2 * D:=by rw [hK4,cv_snoc, ← hD.out]; rfl
  have hm0:=cv_pos hok.gd
  refine wbt rfl rfl rfl rfl (bLs (decide_eq_true (by omega))) ?_
  refine wn1 (wSq ?_)
  refine wT (ev rfl rfl) ?_
  refine wk2 (wl rfl (oIx (p:=p) (g:=b) (off:=off) (m:=n) (k:=i) (j:=(off + i * 2)) rfl rfl Tryz.runUnderlying22 Tryz.sizeOf45 (ev rfl rfl) hpx (ev rfl rfl) hlt rfl ?_))
  refine wl rfl (oloadA ⟨Tryz.isAgg45,Tryz.sizeOf45⟩ rfl rfl (ev rfl rfl) (fun j v hj => hS.cellAt (hcx j v hj)) rfl ?_)
  refine wl rfl (oAl [.int .u32 0,.int .u32 0] hS rfl rfl Tryz.zeroValue45 rfl ?_)
  clear hS; intro g3 w4 hS
  refine wl rfl (oSt _ _ Tryz.sizeOf45 hS 0 rfl rfl (ev rfl rfl) (ev rfl rfl) rfl rfl rfl rfl rfl rfl ?_)
  clear hS; intro w5 hS
  refine wn1 (wSq ?_)
  refine wSg 15 [18,19,20,21,22,23,24,25,26,27,28,29,30,31,7] [[],[0],[1,0],[2,0,1],[],[4],[5,4],[6,4,5],[],[8],[9,8],[10,8,9],[3,7,11,0,1,2,4,5,6,8,9,10],[12,0,1,2,3,4,5,6,7,8,9,10,11],[13,0,1,2,3,4,5,6,7,8,9,10,11,12]] [[],[],[],[],[],[],[],[],[],[],[],[],[],[],[13]] [] [] (fun i9 => ([iSv (.pointer (some ⟨gL,0,none⟩)),iSv (.pointer (some ⟨gL,0,none⟩)),iSv (.pointer (some ⟨gL,0,none⟩)),iSv (.slice pV nV cV),iSv (.pointer (some ⟨gL,0,none⟩)),iSv (.pointer (some ⟨gL,0,none⟩)),iSv (.pointer (some ⟨gL,1,none⟩)),iSv (.slice pM nM cM),iSv (.pointer (some ⟨gL,0,none⟩)),iSv (.pointer (some ⟨gL,0,none⟩)),iSv (.pointer (some ⟨gL,2,none⟩)),iSv (.slice pF K.length cF),iSv (.agg #[.slice pV nV cV,.slice pM nM cM,.slice pF K.length cF]),fun _ => Ptr [.slice pV nV cV,.slice pM nM cM,.slice pF K.length cF] 37,fun us => Is ((vat (us.getD 0 undef) []))]:List (List Value → Tell)).getD i9 (fun _ _ _ => False)) hNi (fun d _ _ _ _ h => (by cases d <;> exact h)) (by kernel_rfl) (by kernel_rfl) (by kernel_rfl) hS ?_ ?_
  ·
   refine stM rfl rfl rfl rfl rfl (fun _=>isI) ?_
   refine stT rfl (fun hT hS=>?_) ?_
   ·obtain ⟨hv0,hr0⟩:=hT 0 18 rfl rfl
    obtain hS:=hS.flat1 hr0
    exact inNo rfl (oNC (a:=⟨gL,0,none⟩) rfl rfl (ev rfl hv0) (nSm rfl isI))
   refine stT rfl (fun hT hS=>?_) ?_
   ·obtain ⟨hv1,hr1⟩:=hT 1 19 rfl rfl
    obtain hS:=hS.flat1 hr1
    exact inNo rfl (oFA (g:=gL) (off:=0) 0 rfl rfl (ev rfl hv1) Tryz.runUnderlying37 rfl Tryz.sizeOf24 rfl (nSm rfl isI))
   refine stT rfl (fun hT hS=>?_) ?_
   ·obtain ⟨hv2,hr2⟩:=hT 2 20 rfl rfl
    obtain hS:=hS.flat1 hr2
    exact inNo rfl (oL1 oneN hS 4 rfl rfl (ev rfl hv2) rfl rfl (nSm rfl isI))
   refine stM rfl rfl rfl rfl rfl (fun _=>isI) ?_
   refine stT rfl (fun hT hS=>?_) ?_
   ·obtain ⟨hv4,hr4⟩:=hT 4 22 rfl rfl
    obtain hS:=hS.flat1 hr4
    exact inNo rfl (oNC (a:=⟨gL,0,none⟩) rfl rfl (ev rfl hv4) (nSm rfl isI))
   refine stT rfl (fun hT hS=>?_) ?_
   ·obtain ⟨hv5,hr5⟩:=hT 5 23 rfl rfl
    obtain hS:=hS.flat1 hr5
    exact inNo rfl (oFA (g:=gL) (off:=0) 1 rfl rfl (ev rfl hv5) Tryz.runUnderlying37 rfl Tryz.sizeOf24 rfl (nSm rfl isI))
   refine stT rfl (fun hT hS=>?_) ?_
   ·obtain ⟨hv6,hr6⟩:=hT 6 24 rfl rfl
    obtain hS:=hS.flat1 hr6
    exact inNo rfl (oL1 oneN hS 4 rfl rfl (ev rfl hv6) rfl rfl (nSm rfl isI))
   refine stM rfl rfl rfl rfl rfl (fun _=>isI) ?_
   refine stT rfl (fun hT hS=>?_) ?_
   ·obtain ⟨hv8,hr8⟩:=hT 8 26 rfl rfl
    obtain hS:=hS.flat1 hr8
    exact inNo rfl (oNC (a:=⟨gL,0,none⟩) rfl rfl (ev rfl hv8) (nSm rfl isI))
   refine stT rfl (fun hT hS=>?_) ?_
   ·obtain ⟨hv9,hr9⟩:=hT 9 27 rfl rfl
    obtain hS:=hS.flat1 hr9
    exact inNo rfl (oFA (g:=gL) (off:=0) 2 rfl rfl (ev rfl hv9) Tryz.runUnderlying37 rfl Tryz.sizeOf22 rfl (nSm rfl isI))
   refine stT rfl (fun hT hS=>?_) ?_
   ·obtain ⟨hv10,hr10⟩:=hT 10 28 rfl rfl
    obtain hS:=hS.flat1 hr10
    exact inNo rfl (oL1 ⟨Tryz.isAgg22,Tryz.sizeOf22⟩ hS 4 rfl rfl (ev rfl hv10) rfl rfl (nSm rfl isI))
   refine stT rfl (fun hT hS=>?_) ?_
   ·obtain ⟨hv3,hr3⟩:=hT 3 21 rfl rfl
    obtain ⟨hv7,hr7⟩:=hT 7 25 rfl rfl
    obtain ⟨hv11,hr11⟩:=hT 11 29 rfl rfl
    obtain hS:=hS.flat3 hr3 hr7 hr11
    exact inNo rfl (obuild (ps:=#[(0,.slice pV nV cV),(1,.slice pM nM cM),(2,.slice pF K.length cF)]) (v:=.agg #[.slice pV nV cV,.slice pM nM cM,.slice pF K.length cF]) rfl rfl (parts3 (ev rfl hv3) (ev rfl hv7) (ev rfl hv11)) (fun w => by simp [go_sem,Instr.build,Instr.fill]) (nSm rfl isI))
   refine stT rfl (fun hT hS=>?_) ?_
   ·obtain ⟨hv12,hr12⟩:=hT 12 30 rfl rfl
    obtain hS:=hS.flat1 hr12
    exact .inl ⟨wNo rfl,oboxN [.slice pV nV cV,.slice pM nM cM,.slice pF K.length cF] rfl rfl (ev rfl hv12) rfl ⟨_,_,rfl,ptrI,New.blk _ _ _⟩⟩
   refine stC rfl (fun _ f' _ _ _ _ hT hS _=>?_) ?_
   ·obtain ⟨g6,hv13,hr13⟩:=(hT 13 31 rfl rfl:(Ptr [.slice pV nV cV,.slice pM nM cM,.slice pF K.length cF] 37) _ _)
    obtain hS:=hS.flat1 hr13
    have hQ:(.pointer (some ⟨g6,0,none⟩):Value) = (fun (us:List Value) => ((vat (us.getD 0 undef) []):Value)) [f' 31]:=by show _ = ((vat (f' 31) []):Value); rw [hv13]; rfl
    exact .inl ⟨wNo rfl,oassign rfl rfl (ev rfl hv13) ⟨_,_,rfl,⟨hQ,rfl⟩,New.same _⟩⟩
   exact sNi
  intro vs ρ w7 f' hf hT hS
  obtain ⟨hv0,hr0⟩:=hT 0 (by decide)
  obtain ⟨hv1,hr1⟩:=hT 1 (by decide)
  obtain ⟨hv2,hr2⟩:=hT 2 (by decide)
  obtain ⟨hv3,hr3⟩:=hT 3 (by decide)
  obtain ⟨hv4,hr4⟩:=hT 4 (by decide)
  obtain ⟨hv5,hr5⟩:=hT 5 (by decide)
  obtain ⟨hv6,hr6⟩:=hT 6 (by decide)
  obtain ⟨hv7,hr7⟩:=hT 7 (by decide)
  obtain ⟨hv8,hr8⟩:=hT 8 (by decide)
  obtain ⟨hv9,hr9⟩:=hT 9 (by decide)
  obtain ⟨hv10,hr10⟩:=hT 10 (by decide)
  obtain ⟨hv11,hr11⟩:=hT 11 (by decide)
  obtain ⟨hv12,hr12⟩:=hT 12 (by decide)
  obtain ⟨g6,hv13,hr13⟩:=(hT 13 (by decide):(Ptr [.slice pV nV cV,.slice pM nM cM,.slice pF K.length cF] 37) _ _)
  obtain ⟨hv14,hr14⟩:=(hT 14 (by decide):(fun (us:List Value) => Is ((vat (us.getD 0 undef) []))) [vs 13] _ _)
  replace hv14:vs 14 = .pointer (some ⟨g6,0,none⟩):=hv14.trans (by show ((vat (vs 13) []):Value) = _; rw [hv13]; rfl)
  simp only [pool,if_true,hr0,hr1,hr2,hr3,hr4,hr5,hr6,hr7,hr8,hr9,hr10,hr11,hr12,hr13,hr14,List.nil_append,List.cons_append,List.append_nil] at hS
  simp only [layf,hv0,hv1,hv2,hv3,hv4,hv5,hv6,hv7,hv8,hv9,hv10,hv11,hv12,hv13,hv14] at hf
  subst hf; clear hT hv0 hv1 hv2 hv3 hv4 hv5 hv6 hv7 hv8 hv9 hv10 hv11 hv12 hv13 hv14 hr0 hr1 hr2 hr3 hr4 hr5 hr6 hr7 hr8 hr9 hr10 hr11 hr12 hr13 hr14
  refine wdone rfl ?_
  refine tNo (wsr (wmv rfl rfl ?_))
  refine wl rfl (oFA (g:=g3) (off:=0) 0 rfl rfl (ev rfl rfl) Tryz.runUnderlying45 rfl Tryz.sizeOf38 rfl ?_)
  refine wl rfl (oL1 one32 hS 1 rfl rfl (ev rfl rfl) rfl rfl ?_)
  refine wl rfl (oFA (g:=g3) (off:=0) 1 rfl rfl (ev rfl rfl) Tryz.runUnderlying45 rfl Tryz.sizeOf38 rfl ?_)
  refine wl rfl (oL1 one32 hS 1 rfl rfl (ev rfl rfl) rfl rfl ?_)
  replace hS:=hS.dupRow 6 rfl
  replace hS:=hS.dupRow 3 rfl
  obtain hS:=(show Sep w [.blk g6 [.slice pV nV cV,.slice pM nM cM,.slice pF K.length cF] 37,.lst 45 2 pF K.length cF (rpE (rps K)),.row pV nV cV (lim (cv K).1),.row pM nM cM (lim (cv K).2),.blk g3 [.int .u32 (((x.1:Nat):Int)),.int .u32 (((x.2:Nat):Int))] 45,.row pV nV cV (lim (cv K).1),.lst 38 1 pO nO cO (dgE (dgs K)),.blk gL [.slice pV nV cV,.slice pM nM cM,.slice pF K.length cF] 37,.row pM nM cM (lim (cv K).2)] w7 from hS.pick [2,6,0,1,3,4,5,7,8] (by decide) rfl)
  refine wl rfl (oCl rfl rfl Tryz.call12 rfl (wkaddA hok (by rw [hKt,List.length_take]; omega) hx32.1 hx32.2 hK2 he2 hS) (args3 (ev rfl rfl) (ev rfl rfl) (ev rfl rfl)) ?_)
  rintro _ w8 ⟨_,_,rfl,⟨pV2,nV2,cV2,pM2,nM2,cM2,pF2,cF2,rfl,rfl⟩,hN⟩
  refine ⟨_,rfl,?_⟩
  clear hS; have hS:=hN; clear hN
  refine wn1 (wSq ?_)
  obtain ⟨z1,hz1⟩:∃ z:Int,Hid (((((cv K2).1:Nat):Int)) - ((((cv K).1:Nat):Int)) = z):=⟨_,rfl⟩
  have hk1:Wd z1 1048578:=Wd.sub (Wd.ofN hwV2) (Wd.ofN hwV) hz1 (by omega)
  refine wSg 12 [38,39,40,41,42,43,44,45,46,47,48,8] [[],[0],[1,0],[2,0,1],[3,0,1,2],[],[5],[6,5],[7,5,6],[8,5,6,7],[4,9,0,1,2,3,5,6,7,8],[]] [] [] [] (fun i9 => ([iSv (.pointer (some ⟨g6,0,none⟩)),iSv (.pointer (some ⟨g6,0,none⟩)),iSv (.pointer (some ⟨g6,0,none⟩)),iSv (.slice pV2 nV2 cV2),iSv (.agg #[.bool false,.slice pV2 nV2 cV2]),iSv (.pointer (some ⟨gL,0,none⟩)),iSv (.pointer (some ⟨gL,0,none⟩)),iSv (.pointer (some ⟨gL,0,none⟩)),iSv (.slice pV nV cV),iSv (.agg #[.bool false,.slice pV nV cV]),fun _ => Zt z1,fun _ => Ptr [.bool false,.slice none 0 0] 60]:List (List Value → Tell)).getD i9 (fun _ _ _ => False)) hNi (fun d _ _ _ _ h => (by cases d <;> exact h)) (by kernel_rfl) (by kernel_rfl) (by kernel_rfl) hS ?_ ?_
  ·
   refine stM rfl rfl rfl rfl rfl (fun _=>isI) ?_
   refine stT rfl (fun hT hS=>?_) ?_
   ·obtain ⟨hv0,hr0⟩:=hT 0 38 rfl rfl
    obtain hS:=hS.flat1 hr0
    exact inNo rfl (oNC (a:=⟨g6,0,none⟩) rfl rfl (ev rfl hv0) (nSm rfl isI))
   refine stT rfl (fun hT hS=>?_) ?_
   ·obtain ⟨hv1,hr1⟩:=hT 1 39 rfl rfl
    obtain hS:=hS.flat1 hr1
    exact inNo rfl (oFA (g:=g6) (off:=0) 0 rfl rfl (ev rfl hv1) Tryz.runUnderlying37 rfl Tryz.sizeOf24 rfl (nSm rfl isI))
   refine stT rfl (fun hT hS=>?_) ?_
   ·obtain ⟨hv2,hr2⟩:=hT 2 40 rfl rfl
    obtain hS:=hS.flat1 hr2
    exact inNo rfl (oL1 oneN hS 0 rfl rfl (ev rfl hv2) rfl rfl (nSm rfl isI))
   refine stT rfl (fun hT hS=>?_) ?_
   ·obtain ⟨hv3,hr3⟩:=hT 3 41 rfl rfl
    obtain hS:=hS.flat1 hr3
    exact inNo rfl (obuild (ps:=#[(1,.slice pV2 nV2 cV2)]) (v:=.agg #[.bool false,.slice pV2 nV2 cV2]) rfl rfl (parts1 (ev rfl hv3)) (fun w => by simp [go_sem,Instr.build,Instr.fill]) (nSm rfl isI))
   refine stM rfl rfl rfl rfl rfl (fun _=>isI) ?_
   refine stT rfl (fun hT hS=>?_) ?_
   ·obtain ⟨hv5,hr5⟩:=hT 5 43 rfl rfl
    obtain hS:=hS.flat1 hr5
    exact inNo rfl (oNC (a:=⟨gL,0,none⟩) rfl rfl (ev rfl hv5) (nSm rfl isI))
   refine stT rfl (fun hT hS=>?_) ?_
   ·obtain ⟨hv6,hr6⟩:=hT 6 44 rfl rfl
    obtain hS:=hS.flat1 hr6
    exact inNo rfl (oFA (g:=gL) (off:=0) 0 rfl rfl (ev rfl hv6) Tryz.runUnderlying37 rfl Tryz.sizeOf24 rfl (nSm rfl isI))
   refine stT rfl (fun hT hS=>?_) ?_
   ·obtain ⟨hv7,hr7⟩:=hT 7 45 rfl rfl
    obtain hS:=hS.flat1 hr7
    exact inNo rfl (oL1 oneN hS 7 rfl rfl (ev rfl hv7) rfl rfl (nSm rfl isI))
   refine stT rfl (fun hT hS=>?_) ?_
   ·obtain ⟨hv8,hr8⟩:=hT 8 46 rfl rfl
    obtain hS:=hS.flat1 hr8
    exact inNo rfl (obuild (ps:=#[(1,.slice pV nV cV)]) (v:=.agg #[.bool false,.slice pV nV cV]) rfl rfl (parts1 (ev rfl hv8)) (fun w => by simp [go_sem,Instr.build,Instr.fill]) (nSm rfl isI))
   refine stT rfl (fun hT hS=>?_) ?_
   ·obtain ⟨hv4,hr4⟩:=hT 4 42 rfl rfl
    obtain ⟨hv9,hr9⟩:=hT 9 47 rfl rfl
    obtain hS:=hS.flat2 hr4 hr9
    exact .inl ⟨wNo rfl,oCl rfl rfl Tryz.call18 rfl (wqsub (((hS.sl 2 rfl).zrN hwV2).mono (by omega)) (((hS.sl 5 rfl).zrN hwV).mono (by omega)) hz1) (ar2 (ev rfl hv4) (ev rfl hv9)) cNw⟩
   refine stT rfl (fun _ _=>?_) ?_
   ·exact .inl ⟨wNo rfl,oallocN [.bool false,.slice none 0 0] rfl rfl Tryz.zeroValue60 rfl ⟨_,_,rfl,ptrI,New.blk _ _ _⟩⟩
   exact sNi
  intro vs ρ w10 f' hf hT hS
  obtain ⟨hv0,hr0⟩:=hT 0 (by decide)
  obtain ⟨hv1,hr1⟩:=hT 1 (by decide)
  obtain ⟨hv2,hr2⟩:=hT 2 (by decide)
  obtain ⟨hv3,hr3⟩:=hT 3 (by decide)
  obtain ⟨hv4,hr4⟩:=hT 4 (by decide)
  obtain ⟨hv5,hr5⟩:=hT 5 (by decide)
  obtain ⟨hv6,hr6⟩:=hT 6 (by decide)
  obtain ⟨hv7,hr7⟩:=hT 7 (by decide)
  obtain ⟨hv8,hr8⟩:=hT 8 (by decide)
  obtain ⟨hv9,hr9⟩:=hT 9 (by decide)
  obtain ⟨p1,n1,c1,hv10,hr10⟩:=(hT 10 (by decide):(Zt z1) _ _)
  obtain ⟨g9,hv11,hr11⟩:=(hT 11 (by decide):(Ptr [.bool false,.slice none 0 0] 60) _ _)
  simp only [pool,if_true,hr0,hr1,hr2,hr3,hr4,hr5,hr6,hr7,hr8,hr9,hr10,hr11,List.nil_append,List.cons_append,List.append_nil] at hS
  simp only [layf,hv0,hv1,hv2,hv3,hv4,hv5,hv6,hv7,hv8,hv9,hv10,hv11] at hf
  subst hf; clear hT hv0 hv1 hv2 hv3 hv4 hv5 hv6 hv7 hv8 hv9 hv10 hv11 hr0 hr1 hr2 hr3 hr4 hr5 hr6 hr7 hr8 hr9 hr10 hr11
  refine wLt 12 rfl (by kernel_rfl) (oSt _ _ Tryz.sizeOf60 hS 0 rfl rfl (ev rfl rfl) (ev rfl rfl) rfl rfl rfl rfl rfl rfl ?_)
  clear hS; intro w11 hS
  refine ⟨hNi,?_⟩
  refine wdone rfl ?_
  refine tNo (wSq ?_)
  obtain ⟨hq0,hq1⟩:True ∧ True:=⟨trivial,trivial⟩
  skip
  have hdd:=dig_div hc1 hz1.out hm0
  obtain ⟨z2,hz2⟩:∃ z:Int,Hid (Int.tdiv z1 ((((cv K).2:Nat):Int)) = z):=⟨_,rfl⟩
  have hk2:Wd z2 1048578:=Wd.tdiv hk1 hz2
  refine wSg 11 [50,51,52,53,54,55,56,49,57,58,9] [[],[],[1],[2,1],[3,1,2],[4,1,2,3],[0,5,1,2,3,4],[6,0,1,2,3,4,5],[6,7,0,1,2,3,4,5],[6,7,0,1,2,3,4,5],[]] [[],[],[],[],[],[],[],[6],[6],[],[]] [9] [] (fun i9 => ([iSv (.agg #[.bool (ng z1),.slice p1 n1 c1]),iSv (.pointer (some ⟨gL,0,none⟩)),iSv (.pointer (some ⟨gL,0,none⟩)),iSv (.pointer (some ⟨gL,1,none⟩)),iSv (.slice pM nM cM),iSv (.agg #[.bool false,.slice pM nM cM]),fun _ => ZBt z2 true,fun us => Is (.tuple #[.agg #[.bool (ng z2),(vat (us.getD 0 undef) [0,1])],.bool true]),fun us => Is (.agg #[.bool (ng z2),(vat (us.getD 0 undef) [0,1])]),iSv (.bool true),fun _ => Ptr [.bool false,.slice none 0 0] 60]:List (List Value → Tell)).getD i9 (fun _ _ _ => False)) hNi (fun d _ _ _ _ h => (by cases d <;> exact h)) (by kernel_rfl) (by kernel_rfl) (by kernel_rfl) hS ?_ ?_
  ·
   refine stH rfl (fun ho hS=>?_) ?_
   ·exact inNo rfl (oLd aggZ hS 0 rfl rfl (ev rfl (ho 8 rfl)) rfl rfl rfl (nSm rfl isI))
   refine stM rfl rfl rfl rfl rfl (fun _=>isI) ?_
   refine stT rfl (fun hT hS=>?_) ?_
   ·obtain ⟨hv1,hr1⟩:=hT 1 51 rfl rfl
    obtain hS:=hS.flat1 hr1
    exact inNo rfl (oNC (a:=⟨gL,0,none⟩) rfl rfl (ev rfl hv1) (nSm rfl isI))
   refine stT rfl (fun hT hS=>?_) ?_
   ·obtain ⟨hv2,hr2⟩:=hT 2 52 rfl rfl
    obtain hS:=hS.flat1 hr2
    exact inNo rfl (oFA (g:=gL) (off:=0) 1 rfl rfl (ev rfl hv2) Tryz.runUnderlying37 rfl Tryz.sizeOf24 rfl (nSm rfl isI))
   refine stT rfl (fun hT hS=>?_) ?_
   ·obtain ⟨hv3,hr3⟩:=hT 3 53 rfl rfl
    obtain hS:=hS.flat1 hr3
    exact inNo rfl (oL1 oneN hS 9 rfl rfl (ev rfl hv3) rfl rfl (nSm rfl isI))
   refine stT rfl (fun hT hS=>?_) ?_
   ·obtain ⟨hv4,hr4⟩:=hT 4 54 rfl rfl
    obtain hS:=hS.flat1 hr4
    exact inNo rfl (obuild (ps:=#[(1,.slice pM nM cM)]) (v:=.agg #[.bool false,.slice pM nM cM]) rfl rfl (parts1 (ev rfl hv4)) (fun w => by simp [go_sem,Instr.build,Instr.fill]) (nSm rfl isI))
   refine stT rfl (fun hT hS=>?_) ?_
   ·obtain ⟨hv0,hr0⟩:=hT 0 50 rfl rfl
    obtain ⟨hv5,hr5⟩:=hT 5 55 rfl rfl
    obtain hS:=hS.flat2 hr0 hr5
    exact .inl ⟨wNo rfl,oCl rfl rfl Tryz.call19 rfl (wqexact (((hS.sl 1 rfl).zr hk1).mono (by omega)) (((hS.sl 10 rfl).zrN hwM).mono (by omega)) (by omega) (hdd.1) hz2) (ar2 (ev rfl hv0) (ev rfl hv5)) cNw⟩
   refine stC rfl (fun _ f' _ _ _ _ hT hS _=>?_) ?_
   ·obtain ⟨p2,n2,c2,hv6,hr6⟩:=(hT 6 56 rfl rfl:(ZBt z2 true) _ _)
    obtain hS:=hS.flat1 hr6
    have hQ:(.tuple #[.agg #[.bool (ng z2),.slice p2 n2 c2],.bool true]:Value) = (fun (us:List Value) => (.tuple #[.agg #[.bool (ng z2),(vat (us.getD 0 undef) [0,1])],.bool true]:Value)) [f' 56]:=by show _ = (.tuple #[.agg #[.bool (ng z2),(vat (f' 56) [0,1])],.bool true]:Value); rw [hv6]; rfl
    exact .inl ⟨wNo rfl,omove rfl rfl (ev rfl hv6) ⟨_,_,rfl,⟨hQ,rfl⟩,New.same _⟩⟩
   refine stC rfl (fun _ f' _ _ _ _ hT hS _=>?_) ?_
   ·obtain ⟨p2,n2,c2,hv6,hr6⟩:=(hT 6 56 rfl rfl:(ZBt z2 true) _ _)
    obtain ⟨hv7,hr7⟩:=(hT 7 49 rfl rfl:(fun (us:List Value) => Is (.tuple #[.agg #[.bool (ng z2),(vat (us.getD 0 undef) [0,1])],.bool true])) [f' 56] _ _)
    replace hv7:f' 49 = .tuple #[.agg #[.bool (ng z2),.slice p2 n2 c2],.bool true]:=hv7.trans (by show (.tuple #[.agg #[.bool (ng z2),(vat (f' 56) [0,1])],.bool true]:Value) = _; rw [hv6]; rfl)
    obtain hS:=hS.flat2 hr6 hr7
    have hQ:(.agg #[.bool (ng z2),.slice p2 n2 c2]:Value) = (fun (us:List Value) => (.agg #[.bool (ng z2),(vat (us.getD 0 undef) [0,1])]:Value)) [f' 56]:=by show _ = (.agg #[.bool (ng z2),(vat (f' 56) [0,1])]:Value); rw [hv6]; rfl
    exact .inl ⟨wNo rfl,oEx rfl rfl (ev rfl hv7) rfl ⟨_,_,rfl,⟨hQ,rfl⟩,New.same _⟩⟩
   refine stepsPure rfl ?_ ?_
   ·intro f' ρ ho hT
    obtain ⟨p2,n2,c2,hv6,hr6⟩:=(hT 6 56 rfl rfl:(ZBt z2 true) _ _)
    obtain ⟨hv7,hr7⟩:=(hT 7 49 rfl rfl:(fun (us:List Value) => Is (.tuple #[.agg #[.bool (ng z2),(vat (us.getD 0 undef) [0,1])],.bool true])) [f' 56] _ _)
    replace hv7:f' 49 = .tuple #[.agg #[.bool (ng z2),.slice p2 n2 c2],.bool true]:=hv7.trans (by show (.tuple #[.agg #[.bool (ng z2),(vat (f' 56) [0,1])],.bool true]:Value) = _; rw [hv6]; rfl)
    exact ⟨_,.inl ⟨wNo rfl,fun w hw => yextract (vs:=[.agg #[.bool (ng z2),.slice p2 n2 c2],.bool true]) (v:=.bool true) rfl (ev rfl hv7) rfl w⟩,isI⟩
   refine stT rfl (fun _ _=>?_) ?_
   ·exact .inl ⟨wNo rfl,oallocN [.bool false,.slice none 0 0] rfl rfl Tryz.zeroValue60 rfl ⟨_,_,rfl,ptrI,New.blk _ _ _⟩⟩
   exact sNi
  intro vs ρ w13 f' hf hT hS
  obtain ⟨hv0,hr0⟩:=hT 0 (by decide)
  obtain ⟨hv1,hr1⟩:=hT 1 (by decide)
  obtain ⟨hv2,hr2⟩:=hT 2 (by decide)
  obtain ⟨hv3,hr3⟩:=hT 3 (by decide)
  obtain ⟨hv4,hr4⟩:=hT 4 (by decide)
  obtain ⟨hv5,hr5⟩:=hT 5 (by decide)
  obtain ⟨p2,n2,c2,hv6,hr6⟩:=(hT 6 (by decide):(ZBt z2 true) _ _)
  obtain ⟨hv7,hr7⟩:=(hT 7 (by decide):(fun (us:List Value) => Is (.tuple #[.agg #[.bool (ng z2),(vat (us.getD 0 undef) [0,1])],.bool true])) [vs 6] _ _)
  replace hv7:vs 7 = .tuple #[.agg #[.bool (ng z2),.slice p2 n2 c2],.bool true]:=hv7.trans (by show (.tuple #[.agg #[.bool (ng z2),(vat (vs 6) [0,1])],.bool true]:Value) = _; rw [hv6]; rfl)
  obtain ⟨hv8,hr8⟩:=(hT 8 (by decide):(fun (us:List Value) => Is (.agg #[.bool (ng z2),(vat (us.getD 0 undef) [0,1])])) [vs 6] _ _)
  replace hv8:vs 8 = .agg #[.bool (ng z2),.slice p2 n2 c2]:=hv8.trans (by show (.agg #[.bool (ng z2),(vat (vs 6) [0,1])]:Value) = _; rw [hv6]; rfl)
  obtain ⟨hv9,hr9⟩:=hT 9 (by decide)
  obtain ⟨g12,hv10,hr10⟩:=(hT 10 (by decide):(Ptr [.bool false,.slice none 0 0] 60) _ _)
  simp only [pool,if_true,hr0,hr1,hr2,hr3,hr4,hr5,hr6,hr7,hr8,hr9,hr10,List.nil_append,List.cons_append,List.append_nil] at hS
  simp only [layf,hv0,hv1,hv2,hv3,hv4,hv5,hv6,hv7,hv8,hv9,hv10] at hf
  subst hf; clear hT hv0 hv1 hv2 hv3 hv4 hv5 hv6 hv7 hv8 hv9 hv10 hr0 hr1 hr2 hr3 hr4 hr5 hr6 hr7 hr8 hr9 hr10
  refine wLt 11 rfl (by kernel_rfl) (oSt _ _ Tryz.sizeOf60 hS 0 rfl rfl (ev rfl rfl) (ev rfl rfl) rfl rfl rfl rfl rfl rfl ?_)
  clear hS; intro w14 hS
  refine ⟨hNi,?_⟩
  refine wLt 12 rfl (by kernel_rfl) (oassign rfl rfl (ev rfl rfl) ?_)
  refine ⟨hNi,?_⟩
  refine wdone rfl ?_
  refine tNo (wsr (wmv rfl rfl ?_))
  refine wl rfl (oFA (g:=g12) (off:=0) 1 rfl rfl (ev rfl rfl) Tryz.runUnderlying60 rfl Tryz.sizeOf24 rfl ?_)
  refine wl rfl (oL1 oneN hS 0 rfl rfl (ev rfl rfl) rfl rfl ?_)
  refine wl rfl (oFA (g:=g3) (off:=0) 1 rfl rfl (ev rfl rfl) Tryz.runUnderlying45 rfl Tryz.sizeOf38 rfl ?_)
  refine wl rfl (oL1 one32 hS 8 rfl rfl (ev rfl rfl) rfl rfl ?_)
  have hquo:=hz2.out.symm.trans hdd.2
  refine wcl Tryz.call20 (wkrestD (hS.sl 1 rfl) hk2 hquo (by omega) hx32.2 hDp) (ar2 (ev rfl rfl) (ev rfl rfl)) hS ?_
  clear hS; rintro _ _ w15 ⟨rfl,rfl⟩ hS
  refine wl rfl (obslice (ps:=#[(0,.int .u32 (D:Int))]) (z:=.int .u32 0) [.int .u32 (D:Int)] hS rfl rfl Tryz.runUnderlying23 Tryz.sizeOf38 Tryz.zeroValue38 (parts1 (ev (v:=.int .u32 (D:Int)) rfl rfl)) rfl (by decide) fill1_1 ?_)
  clear hS; intro g16 w17 hS
  obtain hS:=(show Sep w [.lst 38 1 pO nO cO (dgE (dgs K)),.blk g16 [.int .u32 (((D:Nat):Int))] 38,.blk g12 [.bool (ng z2),.slice p2 n2 c2] 60,.row p2 n2 c2 (lim z2.natAbs),.blk g9 [.bool (ng z1),.slice p1 n1 c1] 60,.row p1 n1 c1 (lim z1.natAbs),.blk g6 [.slice pV2 nV2 cV2,.slice pM2 nM2 cM2,.slice pF2 K2.length cF2] 37,.lst 45 2 pF2 K2.length cF2 (rpE (rps K2)),.row pV2 nV2 cV2 (lim (cv K2).1),.row pM2 nM2 cM2 (lim (cv K2).2),.blk g3 [.int .u32 (((x.1:Nat):Int)),.int .u32 (((x.2:Nat):Int))] 45,.row pV nV cV (lim (cv K).1),.blk gL [.slice pV nV cV,.slice pM nM cM,.slice pF K.length cF] 37,.row pM nM cM (lim (cv K).2)] w17 from hS.pick [11,0,1,2,3,4,5,6,7,8,9,10,12,13] (by decide) rfl)
  refine wl rfl (oappendL (p:=pO) (m:=nO) (c:=cO) (g2:=g16) (c2:=1) (off:=0) [.int .u32 (D:Int)] [] hS rfl rfl Tryz.underlying23 infouint32 rfl (by decide) (ev rfl rfl) (ev rfl rfl) (fun j v hj => by rw [Nat.zero_add]; exact (blk_cell (hS.blkAt 1 rfl) j).trans hj) rfl rfl rfl (by omega) (by omega) ?_)
  clear hS; intro p19 c20 w18 hS
  refine wav rfl rfl ?_
  refine wn1 (wreg (wmv rfl rfl ?_))
  refine wav rfl rfl ?_
  refine wnil (blkN (tNo (wreg ?_)))
  obtain hS:=(show Sep w [.lst 38 1 p19 ((nO + 1)) c20 ((dgE (dgs K)) ++ [⟨[.int .u32 (((D:Nat):Int))],[]⟩]),.blk g16 [.int .u32 (((D:Nat):Int))] 38,.blk g12 [.bool (ng z2),.slice p2 n2 c2] 60,.row p2 n2 c2 (lim z2.natAbs),.blk g9 [.bool (ng z1),.slice p1 n1 c1] 60,.row p1 n1 c1 (lim z1.natAbs),.blk g6 [.slice pV2 nV2 cV2,.slice pM2 nM2 cM2,.slice pF2 K2.length cF2] 37,.lst 45 2 pF2 K2.length cF2 (rpE (rps K2)),.row pV2 nV2 cV2 (lim (cv K2).1),.row pM2 nM2 cM2 (lim (cv K2).2),.blk g3 [.int .u32 (((x.1:Nat):Int)),.int .u32 (((x.2:Nat):Int))] 45,.row pV nV cV (lim (cv K).1),.row pM nM cM (lim (cv K).2)] w18 from hS.pick [0,1,2,3,4,5,6,7,8,9,10,11,13] (by decide) rfl)
  rw [dgE_snoc, ← hD.out, ← dgs_snoc, ← hK4] at hS
  refine wbc (z:=.int .i64 ((i + 1:Nat):Int)) rfl rfl (bAd (wI6 (by omega) (by omega))) ?_
  refine wmv rfl rfl ?_
  refine wn1 ?_
  exact ⟨(i + 1),⟨_,_,_,_,_,_,_,_,_,_,_,_,_,_,aSs ⟨rfl,rfl,rfl,rfl,rfl,rfl,trivial⟩,hS.pick [8,0,7,6,9] (by decide) rfl,by omega,hok2,hK3,by rw [hK4,List.length_append,hnO]; rfl⟩,by omega⟩
 refine wbt rfl rfl rfl rfl (bLs (decide_eq_false (by omega))) ?_
 refine wn1 (wSq ?_)
 refine wF (ev rfl rfl) ?_
 refine wEx ?_
 refine tEx ?_
 refine tEx ?_
 refine blkE ?_
 refine tNo (wsr (wmv rfl rfl ?_))
 refine wav rfl rfl ?_
 refine wn1 ?_
 refine wLv ?_
 obtain rfl:K = L:=hKt.trans (List.take_of_length_le (by have:=hL.1; omega))
 refine wr1 Tryz.results8 (tlT (v:=.slice pO nO cO) rfl rfl) ?_
 exact ⟨_,_,rfl,⟨pO,cO,by rw [hnO],rfl⟩,(by rw [hnO] at hS; exact hS.newR 1 rfl rfl)⟩
open Go.RowKit
def TSt (L:List (Nat × Nat)) (j:Nat) (u v:Value) (r:List Res):Prop := ∃ p1 n1 c1 p2 n2 c2,u = .slice p1 n1 c1 ∧ v = .slice p2 n2 c2 ∧ r = [.rowm p1 n1 c1 (lim (cv (L.take (j + 1))).1),.rowm p2 n2 c2 (lim (cv (L.take (j + 1))).2)]
def StT (L:List (Nat × Nat)):Tell:=fun v r => ∃ gc p c,v = .func (.func 24) #[] #[.pointer (some ⟨gc,0,none⟩)] ∧ r = [.blk gc [.slice p L.length c] 22,.lst 45 2 p L.length c (rpE L)]
structure Far (L:List (Nat × Nat)) (k:Nat):Prop where
  le:k ≤ L.length
  ok:Okl (L.take k)
  no:∀ x,L[k]? = some x → eno (mods (L.take k)) x.2 ≠ 0
theorem far_from {L:List (Nat × Nat)} (h32:∀ x ∈ L,x.1 < 4294967296 ∧ x.2 < 4294967296) (hlen:L.length ≤ 1048576):∀ (d i:Nat),L.length - i = d → i ≤ L.length → Okl (L.take i) → ∃ k,Far L k:=by
 intro d
 induction d with
 | zero => intro i hd hi hok; exact ⟨i,hi,hok,fun x hx => by have:=(List.getElem?_eq_some_iff.1 hx).1; omega⟩
 | succ d ih =>
  intro i hd hi hok
  obtain ⟨x,hx⟩:∃ x,L[i]? = some x:=⟨_,List.getElem?_eq_getElem (show i < L.length by omega)⟩
  by_cases he:eno (mods (L.take i)) x.2 = 0
  ·obtain ⟨h1,h2⟩:=eno_zero.1 he
   exact ih (i + 1) (by omega) (by omega) ((take_next hx) ▸ hok.snoc h1 (h32 x (List.mem_of_getElem? hx)).2 h2 (by rw [List.length_take]; omega))
  exact ⟨i,hi,hok,fun y hy => by rw [hx] at hy; obtain rfl:=Option.some.inj hy; exact he⟩
theorem far_ex {L:List (Nat × Nat)} (h32:∀ x ∈ L,x.1 < 4294967296 ∧ x.2 < 4294967296) (hlen:L.length ≤ 1048576):∃ k,Far L k :=
  far_from h32 hlen _ 0 rfl (Nat.zero_le _) (by rw [List.take_zero]; exact Okl.nil)
theorem Far.at {L:List (Nat × Nat)} {k i:Nat} (h:Far L k) (hi:i ≤ k):Okl (L.take i):=by
  have h2:(L.take k).take i = L.take i:=by rw [List.take_take,Nat.min_eq_left hi]
  refine ⟨h2 ▸ h.ok.gd.take i,fun x hx => h.ok.lt x ?_,?_⟩
  · rw [← h2] at hx; exact List.mem_of_mem_take hx
  have:=h.ok.len; have:=h.le; rw [List.length_take] at *; omega
theorem Far.next {L:List (Nat × Nat)} {k i:Nat} {x:Nat × Nat} (h:Far L k) (hi:i < k) (hx:L[i]? = some x):eno (mods (L.take i)) x.2 = 0:=by
  have h1:=(h.at (show i + 1 ≤ k from hi)).gd
  rw [take_next hx] at h1
  exact eno_zero.2 (Gd.snoc.1 h1).2
theorem range_snoc (i:Nat):List.range i ++ [i] = List.range (i + 1):=List.range_succ.symm
theorem range_pre {i k:Nat} (h:i < k):List.range i ++ [i] <+: List.range k:=by
  rw [range_snoc]
  rw [show List.range (i + 1) = (List.range k).take (i + 1) by rw [List.take_range,Nat.min_eq_left h]]
  exact List.take_prefix _ _
theorem wsteps11 {w0 w:World} {l k:Nat} {L:List (Nat × Nat)} {I Ix:List Nat → List Res → Prop} {Rf Rc:List Res} (hY:YieldOk2 Tryz.prog w0 (TSt L) (List.range k) l I Ix) {pre:List Nat} {j g1 gb:Nat} {s:Gh} (hpx:pre ++ [j] <+: List.range k) (hI:I pre Rc) (hok:Okl (L.take (j + 1))) (hS:Sep w0 (.pack (crtR g1 s (L.take (j + 1))) :: .blk gb [.func (.yield l) #[] #[]] 35 :: (Rf ++ Rc)) w) :
  Calls Tryz.prog 25 (#[.pointer (some ⟨g1,0,none⟩)] ++ #[.pointer (some ⟨gb,0,none⟩)]) w (fun e W' => (e = .returned (.bool true) ∧ ∃ Rc',I (pre ++ [j]) Rc' ∧ Sep w0 (.pack (crtR g1 s (L.take (j + 1))) :: .blk gb [.func (.yield l) #[] #[]] 35 :: (Rf ++ Rc')) W') ∨ (e = .returned (.bool false) ∧ ∃ Rc',Ix (pre ++ [j]) Rc' ∧ Sep w0 (.pack (crtR g1 s (L.take (j + 1))) :: .blk gb [.func (.yield l) #[] #[]] 35 :: (Rf ++ Rc')) W')):=by
 refine went Tryz.func25 rfl (n:=10) rfl rfl ?_
 refine wsr (wavc ?_)
 refine wn1 (wSq ?_)
 refine cw_of_cr (m:=0) (istage (Ds:=[]) 5 [4,5,6,7,8] [[],[],[1],[],[3,1,2]] [[],[],[],[],[]] [] [] (fun i9 => ([fun _ => Is (.func (.yield l) #[] #[]),fun _ => Is (.pointer (some ⟨g1,0,none⟩)),fun _ => Nw (lim (cv (L.take (j + 1))).1),fun _ => Is (.pointer (some ⟨g1,0,none⟩)),fun _ => Nw (lim (cv (L.take (j + 1))).2)]:List (List Value → Tell)).getD i9 (fun _ _ _ => False)) hNi rfl (by rfl) (by kernel_rfl) (by kernel_rfl) hS ?_ ?_)
 ·
  refine stH rfl (fun ho hS=>?_) ?_
  ·exact inNo rfl (oL1 ⟨Tryz.isAgg35,Tryz.sizeOf35⟩ hS 1 rfl rfl (ev rfl (ho 1 rfl)) rfl rfl (nSm rfl isI))
  refine stM rfl rfl rfl rfl rfl (fun _=>isI) ?_
  refine stT rfl (fun hT hS=>?_) ?_
  ·obtain ⟨hv1,hr1⟩:=hT 1 5 rfl rfl
   obtain hS:=(hS.flat1 hr1).front1
   exact .inl ⟨wNo rfl,oCl rfl rfl Tryz.call26 rfl (wcvalue (hS.get 0 rfl) hok) (ar1 (ev rfl hv1)) cNw⟩
  refine stM rfl rfl rfl rfl rfl (fun _=>isI) ?_
  refine stT rfl (fun hT hS=>?_) ?_
  ·obtain ⟨hv3,hr3⟩:=hT 3 7 rfl rfl
   obtain hS:=(hS.flat1 hr3).front1
   exact .inl ⟨wNo rfl,oCl rfl rfl Tryz.call27 rfl (wcmod (hS.get 0 rfl) hok) (ar1 (ev rfl hv3)) cNw⟩
  exact sNi
 intro vs ρ w1 f' hf hT hS
 obtain ⟨hv0,hr0⟩:=hT 0 (by decide)
 obtain ⟨hv1,hr1⟩:=hT 1 (by decide)
 obtain ⟨ppv,npv,cpv,hv2,hr2⟩:=(hT 2 (by decide):(Nw (lim (cv (L.take (j + 1))).1)) _ _)
 obtain ⟨hv3,hr3⟩:=hT 3 (by decide)
 obtain ⟨ppm,npm,cpm,hv4,hr4⟩:=(hT 4 (by decide):(Nw (lim (cv (L.take (j + 1))).2)) _ _)
 simp only [pool,if_true,hr0,hr1,hr2,hr3,hr4,List.nil_append,List.cons_append,List.append_nil] at hS
 simp only [layf,hv0,hv1,hv2,hv3,hv4] at hf
 subst hf; clear hT hv0 hv1 hv2 hv3 hv4 hr0 hr1 hr2 hr3 hr4
 obtain hS:=(show Sep w0 (.rowm ppv npv cpv (lim (cv (L.take (j + 1))).1) :: .rowm ppm npm cpm (lim (cv (L.take (j + 1))).2) :: .pack (crtR g1 s (L.take (j + 1))) :: .blk gb [.func (.yield l) #[] #[]] 35 :: (Rf ++ Rc)) w1 from Sep.pickT [.rowm ppm npm cpm (lim (cv (L.take (j + 1))).2),.rowm ppv npv cpv (lim (cv (L.take (j + 1))).1),.pack (crtR g1 s (L.take (j + 1))),.blk gb [.func (.yield l) #[] #[]] 35] [.rowm ppv npv cpv (lim (cv (L.take (j + 1))).1),.rowm ppm npm cpm (lim (cv (L.take (j + 1))).2),.pack (crtR g1 s (L.take (j + 1))),.blk gb [.func (.yield l) #[] #[]] 35] hS [1,0,2,3] (by decide) rfl)
 refine iyield 5 rfl (by kernel_rfl) rfl rfl rfl (ev rfl rfl) (ar2 (ev rfl rfl) (ev rfl rfl)) (hY 0 pre j _ _ [.rowm ppv npv cpv (lim (cv (L.take (j + 1))).1),.rowm ppm npm cpm (lim (cv (L.take (j + 1))).2)] (.pack (crtR g1 s (L.take (j + 1))) :: .blk gb [.func (.yield l) #[] #[]] 35 :: Rf) Rc _ hpx hI ⟨_,_,_,_,_,_,rfl,rfl,rfl⟩ hS) ?_
 intro e3 w2 hye3
 by_cases he3:e3 = .returned (.bool true)
 ·
  obtain ⟨rfl,Rc,hI,hS⟩:=hye3.resolve_right (fun h => by have h1:=h.1; rw [he3] at h1; cases h1)
  refine ⟨_,rfl,?_⟩
  refine ilate 6 rfl (by kernel_rfl) rfl (oassign rfl rfl (ev rfl rfl) ?_)
  refine ⟨hNi,?_⟩
  refine idone0 rfl ?_
  refine tNo ?_
  refine wLv ?_
  refine wr1 Tryz.results25 (tlT (v:=.bool true) rfl rfl) ?_
  exact .inl ⟨rfl,Rc,hI,Sep.pickT [.pack (crtR g1 s (L.take (j + 1))),.blk gb [.func (.yield l) #[] #[]] 35] [.pack (crtR g1 s (L.take (j + 1))),.blk gb [.func (.yield l) #[] #[]] 35] hS [0,1] (by decide) rfl⟩
 obtain ⟨rfl,Rc,hI,hS⟩:=hye3.resolve_left (fun h => he3 h.1)
 refine ⟨_,rfl,?_⟩
 refine ilate 6 rfl (by kernel_rfl) rfl (oassign rfl rfl (ev rfl rfl) ?_)
 refine ⟨hNi,?_⟩
 refine idone0 rfl ?_
 refine tNo ?_
 refine wLv ?_
 refine wr1 Tryz.results25 (tlT (v:=.bool false) rfl rfl) ?_
 exact .inr ⟨rfl,Rc,hI,Sep.pickT [.pack (crtR g1 s (L.take (j + 1))),.blk gb [.func (.yield l) #[] #[]] 35] [.pack (crtR g1 s (L.take (j + 1))),.blk gb [.func (.yield l) #[] #[]] 35] hS [0,1] (by decide) rfl⟩
theorem wcallS {w0 w:World} {l k:Nat} {L:List (Nat × Nat)} {I Ix:List Nat → List Res → Prop} {Rf Rc:List Res} (hY:YieldOk2 Tryz.prog w0 (TSt L) (List.range k) l I Ix) {p:Option Addr} {c gb:Nat} (ht:Tb w0) (h32:∀ x ∈ L,x.1 < 4294967296 ∧ x.2 < 4294967296) (hlen:L.length ≤ 1048576) (hk:Far L k) (hI:I [] Rc) (hS:Sep w0 (.lst 45 2 p L.length c (rpE L) :: .blk gb [.func (.yield l) #[] #[]] 35 :: (Rf ++ Rc)) w) :
  Calls Tryz.prog 15 #[.slice p L.length c,.func (.func 25) #[] #[.pointer (some ⟨gb,0,none⟩)]] w (fun e W' => (∃ v,e = .returned v) ∧ ((∃ Rc',I (List.range k) Rc' ∧ Sep w0 (.lst 45 2 p L.length c (rpE L) :: (Rf ++ Rc')) W') ∨ ∃ pre Rc',pre <+: List.range k ∧ Ix pre Rc' ∧ Sep w0 (.lst 45 2 p L.length c (rpE L) :: (Rf ++ Rc')) W')):=by
 refine went Tryz.func15 rfl (n:=33) rfl rfl ?_
 refine wsr (wavc ?_)
 refine wavc ?_
 refine wn2 (wcl Tryz.call39 (wcnew) (args0 ) hS ?_)
 clear hS; rintro _ _ w1 ⟨g1,s1,rfl,rfl⟩ hS
 refine wav rfl rfl ?_
 refine wn1 (wSq (wsr (wmv rfl rfl ?_)))
 refine wl rfl (olen rfl rfl rfl Tryz.runUnderlying22 (p:=p) (k:=L.length) (m:=c) (ev rfl rfl) ?_)
 refine wmvc ?_
 refine wn1 (wBk ?_)
 refine wLp (σ := Nat) (fun i a9 w' => ∃ (fb:Nat → Value) (sg:Gh) (Rc:List Res),a9 = act 33 (sets fb [(1,.func (.func 25) #[] #[.pointer (some ⟨gb,0,none⟩)]),(6,.pointer (some ⟨g1,0,none⟩)),(11,.slice p L.length c),(12,.int .i64 (L.length:Int)),(13,.int .i64 (i:Int))]) ∧ Sep w0 (.pack (crtR g1 sg (L.take i)) :: .lst 45 2 p L.length c (rpE L) :: .blk gb [.func (.yield l) #[] #[]] 35 :: (Rf ++ Rc)) w' ∧ (i ≤ k) ∧ (I (List.range i) Rc)) (fun i => L.length - i) (0) ⟨_,s1,_,aSs ⟨rfl,rfl,rfl,rfl,rfl,trivial⟩,hS,Nat.zero_le _,hI⟩ ?_
 clear hS; rintro i _ w2 ⟨fb,sg,Rc,rfl,hS,hik,hI⟩
 refine wsr ?_
 by_cases hlt:i < L.length
 ·
  obtain ⟨x,hx⟩:∃ x,L[i]? = some x:=⟨_,List.getElem?_eq_getElem hlt⟩
  obtain ⟨gF,hpF,hcF,_⟩:=hS.lstCell 1 rfl (rpE_get hx) (by omega)
  have hx32:=h32 x (List.mem_of_getElem? hx)
  have hok:=hk.at hik
  refine wbt rfl rfl rfl rfl (bLs (decide_eq_true (by omega))) ?_
  refine wn1 (wSq ?_)
  refine wT (ev rfl rfl) ?_
  refine wk2 (wl rfl (oIx (p:=p) (g:=gF) (off:=0) (m:=L.length) (k:=i) (j:=(0 + i * 2)) rfl rfl Tryz.runUnderlying22 Tryz.sizeOf45 (ev rfl rfl) hpF (ev rfl rfl) hlt rfl ?_))
  refine wl rfl (oloadA ⟨Tryz.isAgg45,Tryz.sizeOf45⟩ rfl rfl (ev rfl rfl) (fun j v hj => hcF j v hj) rfl ?_)
  refine wl rfl (oAl [.int .u32 0,.int .u32 0] hS rfl rfl Tryz.zeroValue45 rfl ?_)
  clear hS; intro g3 w4 hS
  refine wl rfl (oSt _ _ Tryz.sizeOf45 hS 0 rfl rfl (ev rfl rfl) (ev rfl rfl) rfl rfl rfl rfl rfl rfl ?_)
  clear hS; intro w5 hS
  refine wn1 (wSq (wsr (wmv rfl rfl ?_)))
  refine wl rfl (oFA (g:=g3) (off:=0) 0 rfl rfl (ev rfl rfl) Tryz.runUnderlying45 rfl Tryz.sizeOf38 rfl ?_)
  refine wl rfl (oL1 one32 hS 0 rfl rfl (ev rfl rfl) rfl rfl ?_)
  refine wl rfl (oFA (g:=g3) (off:=0) 1 rfl rfl (ev rfl rfl) Tryz.runUnderlying45 rfl Tryz.sizeOf38 rfl ?_)
  refine wl rfl (oL1 one32 hS 0 rfl rfl (ev rfl rfl) rfl rfl ?_)
  by_cases hz0:eno (mods (L.take i)) x.2 = 0
  ·
   have hik2:i < k:=by
    rcases Nat.lt_or_ge i k with h | h
    ·exact h
    obtain rfl:i = k:=by omega
    exact absurd hz0 (hk.no x hx)
   obtain ⟨hp,hm⟩:=eno_zero.1 hz0
   have hok2:=hk.at (show i + 1 ≤ k from hik2)
   have hpx:=range_pre hik2
   obtain hS:=(show Sep w0 (.pack (crtR g1 sg (L.take i)) :: .blk g3 [.int .u32 (((x.1:Nat):Int)),.int .u32 (((x.2:Nat):Int))] 45 :: .lst 45 2 p L.length c (rpE L) :: .blk gb [.func (.yield l) #[] #[]] 35 :: (Rf ++ Rc)) w5 from Sep.pickT [.blk g3 [.int .u32 (((x.1:Nat):Int)),.int .u32 (((x.2:Nat):Int))] 45,.pack (crtR g1 sg (L.take i)),.lst 45 2 p L.length c (rpE L),.blk gb [.func (.yield l) #[] #[]] 35] [.pack (crtR g1 sg (L.take i)),.blk g3 [.int .u32 (((x.1:Nat):Int)),.int .u32 (((x.2:Nat):Int))] 45,.lst 45 2 p L.length c (rpE L),.blk gb [.func (.yield l) #[] #[]] 35] hS [1,0,2,3] (by decide) rfl)
   refine wl rfl (oCl rfl rfl Tryz.call40 rfl ((by rw [take_next hx]; exact wcadd ht hok (by rw [List.length_take]; omega) hx32.1 hx32.2 hS hp hm:Calls _ _ _ _ (RetS (CrtE g1 (L.take (i + 1)) 0) w0 _))) (args3 (ev rfl rfl) (ev rfl rfl) (ev rfl rfl)) ?_)
   rintro _ w6 ⟨_,_,rfl,⟨s2,rfl,rfl⟩,hN⟩
   refine ⟨_,rfl,?_⟩
   clear hS; have hS:=hN; clear hN
   refine wav rfl rfl ?_
   refine wn2 (wmv rfl rfl ?_)
   refine wbc (u:=.int .i64 0) (v:=.int .i64 0) (z:=.bool false) rfl rfl (bNe (by decide)) ?_
   refine wn1 ?_
   refine wF (ev rfl rfl) ?_
   refine wSk (tNo (wsr (wmv rfl rfl ?_)))
   refine wmv rfl rfl ?_
   obtain hS:=(show Sep w0 (.pack (crtR g1 s2 (L.take (i + 1))) :: .blk gb [.func (.yield l) #[] #[]] 35 :: .blk g3 [.int .u32 (((x.1:Nat):Int)),.int .u32 (((x.2:Nat):Int))] 45 :: .lst 45 2 p L.length c (rpE L) :: (Rf ++ Rc)) w6 from Sep.pickT [.pack (crtR g1 s2 (L.take (i + 1))),.blk g3 [.int .u32 (((x.1:Nat):Int)),.int .u32 (((x.2:Nat):Int))] 45,.lst 45 2 p L.length c (rpE L),.blk gb [.func (.yield l) #[] #[]] 35] [.pack (crtR g1 s2 (L.take (i + 1))),.blk gb [.func (.yield l) #[] #[]] 35,.blk g3 [.int .u32 (((x.1:Nat):Int)),.int .u32 (((x.2:Nat):Int))] 45,.lst 45 2 p L.length c (rpE L)] hS [0,3,1,2] (by decide) rfl)
   refine wl rfl (ocallc (vs:=#[.pointer (some ⟨g1,0,none⟩)]) (caps:=#[.pointer (some ⟨gb,0,none⟩)]) rfl rfl (ev rfl rfl) Tryz.call25 rfl (wsteps11 (Rf:=.blk g3 [.int .u32 (x.1:Int),.int .u32 (x.2:Int)] 45 :: .lst 45 2 p L.length c (rpE L) :: Rf) hY hpx hI hok2 hS) (ar1 (ev rfl rfl)) ?_)
   clear hS; intro e8 w7 hye8
   by_cases he8:e8 = .returned (.bool true)
   ·
    obtain ⟨rfl,Rc,hI,hS⟩:=hye8.resolve_right (fun h => by have h1:=h.1; rw [he8] at h1; cases h1)
    refine ⟨_,rfl,?_⟩
    refine wl rfl (onot rfl rfl (ev rfl rfl) ?_)
    refine wn1 ?_
    refine wF (ev rfl rfl) ?_
    refine wSk (blkN (tNo (wreg (wbc (z:=.int .i64 ((i + 1:Nat):Int)) rfl rfl (bAd (wI6 (by omega) (by omega))) ?_))))
    refine wmv rfl rfl ?_
    refine wn1 ?_
    exact ⟨(i + 1),⟨_,_,_,aSs ⟨rfl,rfl,rfl,rfl,rfl,trivial⟩,Sep.pickT [.pack (crtR g1 s2 (L.take (i + 1))),.blk gb [.func (.yield l) #[] #[]] 35,.blk g3 [.int .u32 (x.1:Int),.int .u32 (x.2:Int)] 45,.lst 45 2 p L.length c (rpE L)] [.pack (crtR g1 s2 (L.take (i + 1))),.lst 45 2 p L.length c (rpE L),.blk gb [.func (.yield l) #[] #[]] 35] hS [0,3,1] (by decide) rfl,by omega,by rw [← range_snoc]; exact hI⟩,by omega⟩
   obtain ⟨rfl,Rc,hI,hS⟩:=hye8.resolve_left (fun h => he8 h.1)
   refine ⟨_,rfl,?_⟩
   refine wl rfl (onot rfl rfl (ev rfl rfl) ?_)
   refine wn1 ?_
   refine wT (ev rfl rfl) ?_
   refine wEx ?_
   refine blkX rfl ?_
   refine tEx ?_
   refine tEx ?_
   refine blkE ?_
   refine tNo (wsr (wmv rfl rfl ?_))
   refine wav rfl rfl ?_
   refine wavc ?_
   refine wn1 ?_
   refine wLv ?_
   refine wret2 Tryz.results15 (tlT (v:=.pointer (some ⟨g1,0,none⟩)) rfl rfl) (tlT (v:=.nilIface) rfl rfl) ?_
   exact ⟨⟨_,rfl⟩,.inr ⟨_,Rc,hpx,hI,Sep.pickT [.pack (crtR g1 s2 (L.take (i + 1))),.blk gb [.func (.yield l) #[] #[]] 35,.blk g3 [.int .u32 (x.1:Int),.int .u32 (x.2:Int)] 45,.lst 45 2 p L.length c (rpE L)] [.lst 45 2 p L.length c (rpE L)] hS [3] (by decide) rfl⟩⟩
  have hki:i = k:=by
   rcases Nat.lt_or_ge i k with h | h
   ·exact absurd (hk.next h hx) hz0
   omega
  obtain ⟨e2,he2⟩:∃ e2:Nat,Hid (eno (mods (L.take i)) x.2 = e2):=⟨_,rfl⟩
  have hen:e2 ≠ 0:=by rw [← he2.out]; exact hz0
  obtain hS:=(show Sep w0 (.pack (crtR g1 sg (L.take i)) :: .blk g3 [.int .u32 (((x.1:Nat):Int)),.int .u32 (((x.2:Nat):Int))] 45 :: .lst 45 2 p L.length c (rpE L) :: .blk gb [.func (.yield l) #[] #[]] 35 :: (Rf ++ Rc)) w5 from Sep.pickT [.blk g3 [.int .u32 (((x.1:Nat):Int)),.int .u32 (((x.2:Nat):Int))] 45,.pack (crtR g1 sg (L.take i)),.lst 45 2 p L.length c (rpE L),.blk gb [.func (.yield l) #[] #[]] 35] [.pack (crtR g1 sg (L.take i)),.blk g3 [.int .u32 (((x.1:Nat):Int)),.int .u32 (((x.2:Nat):Int))] 45,.lst 45 2 p L.length c (rpE L),.blk gb [.func (.yield l) #[] #[]] 35] hS [1,0,2,3] (by decide) rfl)
  refine wl rfl (oCl rfl rfl Tryz.call40 rfl (wcaddA (K2:=L.take i) ht hok (by rw [List.length_take]; omega) hx32.1 hx32.2 (show Hid (_ = _) from nxt_no hz0) he2 hS) (args3 (ev rfl rfl) (ev rfl rfl) (ev rfl rfl)) ?_)
  rintro _ w6 ⟨_,_,rfl,⟨s2,rfl,rfl⟩,hN⟩
  refine ⟨_,rfl,?_⟩
  clear hS; have hS:=hN; clear hN
  refine wav rfl rfl ?_
  refine wn2 (wmv rfl rfl ?_)
  refine wbc rfl rfl (bNe (neT (by omega))) ?_
  refine wn1 ?_
  refine wT (ev rfl rfl) ?_
  refine wsr (wmv rfl rfl ?_)
  refine wl rfl (omakeIface rfl rfl Tryz.underlying25 (fun _ h => by cases h) (ev rfl rfl) ?_)
  refine wavc ?_
  refine wav rfl rfl ?_
  refine wn1 ?_
  refine wLv ?_
  refine thenR ?_
  refine blkR ?_
  refine thenR ?_
  refine thenR ?_
  refine blkR ?_
  refine thenR ?_
  refine wret2 Tryz.results15 (tlT (v:=.pointer none) rfl rfl) (tlT (v:=.iface 25 (.int .i64 (e2:Int))) rfl rfl) ?_
  subst hki
  exact ⟨⟨_,rfl⟩,.inl ⟨Rc,hI,Sep.pickT [.pack (crtR g1 s2 (L.take i)),.blk g3 [.int .u32 (x.1:Int),.int .u32 (x.2:Int)] 45,.lst 45 2 p L.length c (rpE L),.blk gb [.func (.yield l) #[] #[]] 35] [.lst 45 2 p L.length c (rpE L)] hS [2] (by decide) rfl⟩⟩
 refine wbt rfl rfl rfl rfl (bLs (decide_eq_false (by omega))) ?_
 refine wn1 (wSq ?_)
 refine wF (ev rfl rfl) ?_
 refine wEx ?_
 refine tEx ?_
 refine tEx ?_
 refine blkE ?_
 refine tNo (wsr (wmv rfl rfl ?_))
 refine wav rfl rfl ?_
 refine wavc ?_
 refine wn1 ?_
 refine wLv ?_
 obtain rfl:i = k:=by
  rcases Nat.lt_or_ge i k with h | h
  ·have:=hk.le; omega
  omega
 refine wret2 Tryz.results15 (tlT (v:=.pointer (some ⟨g1,0,none⟩)) rfl rfl) (tlT (v:=.nilIface) rfl rfl) ?_
 exact ⟨⟨_,rfl⟩,.inl ⟨Rc,hI,Sep.pickT [.pack (crtR g1 sg (L.take i)),.lst 45 2 p L.length c (rpE L),.blk gb [.func (.yield l) #[] #[]] 35] [.lst 45 2 p L.length c (rpE L)] hS [1] (by decide) rfl⟩⟩
theorem steps_iter {w0:World} {L:List (Nat × Nat)} {k gc c:Nat} {p:Option Addr} (ht:Tb w0) (h32:∀ x ∈ L,x.1 < 4294967296 ∧ x.2 < 4294967296) (hlen:L.length ≤ 1048576) (hk:Far L k) :
  Iter2 Tryz.prog 24 #[.pointer (some ⟨gc,0,none⟩)] (TSt L) (List.range k) w0 [.blk gc [.slice p L.length c] 22,.lst 45 2 p L.length c (rpE L)]:=by
 intro l I Ix Rc w hY hI hS
 show Calls Tryz.prog 24 #[.func (.yield l) #[] #[],.pointer (some ⟨gc,0,none⟩)] w _
 refine went Tryz.func24 rfl (n:=6) rfl rfl ?_
 refine wsr (wl rfl (obox [.func (.yield l) #[] #[]] hS rfl rfl (ev rfl rfl) rfl ?_))
 clear hS; intro g1 w2 hS
 refine wn1 (wreg (wl rfl (oL1 ⟨Tryz.isAgg22,Tryz.sizeOf22⟩ hS 1 rfl rfl (ev rfl rfl) rfl rfl ?_)))
 refine wl rfl (omakeFunc (cs:=#[.pointer (some ⟨g1,0,none⟩)]) rfl rfl (ar1 (ev rfl rfl)) ?_)
 obtain hS:=(show Sep w0 (.lst 45 2 p L.length c (rpE L) :: .blk g1 [.func (.yield l) #[] #[]] 35 :: .blk gc [.slice p L.length c] 22 :: Rc) w2 from Sep.pickT [.blk g1 [.func (.yield l) #[] #[]] 35,.blk gc [.slice p L.length c] 22,.lst 45 2 p L.length c (rpE L)] [.lst 45 2 p L.length c (rpE L),.blk g1 [.func (.yield l) #[] #[]] 35,.blk gc [.slice p L.length c] 22] hS [2,0,1] (by decide) rfl)
 refine wl rfl (oCl rfl rfl Tryz.call15 rfl (wcallS (Rf:=[.blk gc [.slice p L.length c] 22]) hY ht h32 hlen hk hI hS) (ar2 (ev rfl rfl) (ev rfl rfl)) ?_)
 clear hS; rintro _ w3 ⟨⟨v9,rfl⟩,hy⟩
 refine ⟨_,rfl,?_⟩
 refine wnil ?_
 refine wret0n Tryz.results24 ?_
 exact ⟨⟨_,rfl⟩,hy.imp (fun ⟨Rc,h1,h2⟩ => ⟨Rc,h1,Sep.pickT [.lst 45 2 p L.length c (rpE L),.blk gc [.slice p L.length c] 22] [.blk gc [.slice p L.length c] 22,.lst 45 2 p L.length c (rpE L)] h2 [1,0] (by decide) rfl⟩) (fun ⟨pre,Rc,h0,h1,h2⟩ => ⟨pre,Rc,h0,h1,Sep.pickT [.lst 45 2 p L.length c (rpE L),.blk gc [.slice p L.length c] 22] [.blk gc [.slice p L.length c] 22,.lst 45 2 p L.length c (rpE L)] h2 [1,0] (by decide) rfl⟩)⟩
theorem wcsteps {p:Option Addr} {n c:Nat} {L:List (Nat × Nat)} {w:World} (hL:RS w p n L) (hc:p = none → c = 0) (hlen:L.length ≤ 1048576) :
  Calls Tryz.prog 10 #[.slice p n c] w (Ret (StT L) w):=by
 have hn1:=hL.1
 have hS:=Sep.init w
 refine went Tryz.func10 rfl (n:=6) rfl rfl ?_
 refine wsr (wl rfl (obox [.slice p n c] hS rfl rfl (ev rfl rfl) rfl ?_))
 clear hS; intro g1 w2 hS
 refine wavc ?_
 refine wn2 (wl rfl (oL1 ⟨Tryz.isAgg22,Tryz.sizeOf22⟩ hS 0 rfl rfl (ev rfl rfl) rfl rfl ?_))
 refine wcl Tryz.call23 (wcloneR (hL.at hS) hc (by omega)) (ar1 (ev rfl rfl)) hS ?_
 clear hS; rintro _ _ w3 ⟨pR,cR,rfl,rfl⟩ hS
 refine wl rfl (oSt _ _ Tryz.sizeOf22 hS 1 rfl rfl (ev rfl rfl) (ev rfl rfl) rfl rfl rfl rfl rfl rfl ?_)
 clear hS; intro w4 hS
 refine wn2 (wl rfl (omakeFunc (cs:=#[.pointer (some ⟨g1,0,none⟩)]) rfl rfl (ar1 (ev rfl rfl)) ?_))
 refine wav rfl rfl ?_
 refine wn1 ?_
 refine wLv ?_
 refine wr1 Tryz.results10 (tlT (v:=.func (.func 24) #[] #[.pointer (some ⟨g1,0,none⟩)]) rfl rfl) ?_
 exact ⟨_,_,rfl,⟨_,_,_,rfl,rfl⟩,(show Sep w [.blk g1 [.slice pR L.length cR] 22,.lst 45 2 pR L.length cR (rpE L)] w4 from hS.pick [1,0] (by decide) rfl).new rfl⟩
end Go.Proofs.YtjnpdpcldmjdjaaGreatDoor
