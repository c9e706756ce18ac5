/-
  Contracts and lemmas, joined in one text.
-/
import Derived.Test.YtcfcdbeemhjhgaaDoorQD
import Derived.Test.YtcfcdbeemhjhgaaDoorHG
set_option linter.unusedVariables false
set_option linter.unusedSimpArgs false
/-
  Lists of whole fractions: rules,simileref09.Norm.
-/
set_option maxRecDepth 100000
set_option maxHeartbeats 16000000
namespace Go.Proofs.YtcfcdbeemhjhgaaDoor
open Go.RowKit
def PQt (m:Nat) (zs:List Int):Tell:=fun v r => ∃ (pp:Option Addr) (c:Nat) (L:List Iq),izs L = zs ∧ v = .slice pp m c ∧ r = [.lst 91 4 pp m c (iqs L)]
section
variable {w0 w:World} {R:List Res} {t:TypeId} {p:Option Addr} {n c i j g K a:Nat} {L:List Iq} {e:Iq}
theorem back_get {L:List Iq} (hj:L[j]? = some e):(List.replicate a nilQ ++ iqs L)[a + j]? = some (iqE e):=by
  rw [List.getElem?_append_right (by simp),List.length_replicate,Nat.add_sub_cancel_left]; exact iqs_get hj
theorem back_set {L:List Iq}:(List.replicate (a + 1) nilQ ++ iqs L).set a (iqE e) = List.replicate a nilQ ++ iqs (e :: L):=by
  rw [List.replicate_succ',List.append_assoc,List.set_append_right _ _ (by simp),List.length_replicate,Nat.sub_self]; rfl
theorem Sep.lqz (hS:Sep w0 R w) (k:Nat) (hk:R[k]? = some (.lst t 4 p n c (List.replicate a Go.Proofs.YtcfcdbeemhjhgaaDoor.nilQ ++ iqs L))) (hj:L[j]? = some e) (hw:Wd e.z K):Zr w (ng e.z) e.p e.n e.c e.z K:=by
  obtain ⟨_,_,_,h3⟩:=lst_cell (hS.get k hk) (back_get hj) (by decide)
  have hf:Fr 0 w e.p e.n e.c (lim e.z.natAbs):=h3 _ List.mem_cons_self
  exact hf.sl.zr hw
theorem Sep.lq1 (hS:Sep w0 R w) (k:Nat) (hk:R[k]? = some (.lst t 4 p n c (List.replicate a Go.Proofs.YtcfcdbeemhjhgaaDoor.nilQ ++ iqs L))) (hj:L[j]? = some e):Zr w (ng 1) e.q e.m e.d 1 2:=by
  obtain ⟨_,_,_,h3⟩:=lst_cell (hS.get k hk) (back_get hj) (by decide)
  have hf:Fr 0 w e.q e.m e.d (lim (1:Int).natAbs):=h3 _ (List.mem_cons_of_mem _ List.mem_cons_self)
  exact hf.sl.zr wd1
end
theorem Rs.elw {w:World} {p:Option Addr} {m i K:Nat} {L:List Int} (h:Rs w p m (L.map fun z => (z,1)) K) (hi:i < m):∃ z g off b q n k b2 q2 n2 k2,L[i]? = some z ∧ p = some ⟨g,off,none⟩ ∧ (∀ j v,[Value.bool b,.slice q n k,.bool b2,.slice q2 n2 k2][j]? = some v → w.cell? ⟨g,off + i * 4 + j,none⟩ = some v) ∧ Zr w b q n k z K ∧ Zr w b2 q2 n2 k2 1 K:=by
  obtain ⟨e,g,off,b,q,n,k,b2,q2,n2,k2,he,hp,hc,h1,h2⟩:=h.el hi
  rw [List.getElem?_map] at he
  obtain ⟨z,hz,rfl⟩:=Option.map_eq_some_iff.1 he
  exact ⟨z,g,off,b,q,n,k,b2,q2,n2,k2,hz,hp,hc,h1,h2⟩
theorem Rs.lenw {w:World} {p:Option Addr} {m K:Nat} {L:List Int} (h:Rs w p m (L.map fun z => (z,1)) K):L.length = m:=by have:=h.1; rw [List.length_map] at this; exact this.symm
section
variable {x u q:Int} {bA bB bC bD:Bool} {qA qB qC qD:Option Addr} {nA kA nB kB nC kC nD kD:Nat} {w:World}
theorem winorm (hA:Zr w bA qA nA kA x 67108864) (hB:Zr w bB qB nB kB 1 67108864):Calls Tryd.prog 45 #[.agg #[.bool bA,.slice qA nA kA,.bool bB,.slice qB nB kB]] w (Ret (Rrt x 1) w) :=
  wsnorm hA hB (by omega) (Lib.hid (RN_one _)) (Lib.hid (RD_one _))
theorem wiquo (hA:Zr w bA qA nA kA x 16777216) (hB:Zr w bB qB nB kB 1 16777216) (hC:Zr w bC qC nC kC u 16777216) (hD:Zr w bD qD nD kD 1 16777216) (he:x = u * q) (hu:u ≠ 0):Calls Tryd.prog 49 #[.agg #[.bool bA,.slice qA nA kA,.bool bB,.slice qB nB kB],.agg #[.bool bC,.slice qC nC kC,.bool bD,.slice qD nD kD]] w (Ret (Rrt q 1) w) :=
  wsquo hA hB hC hD (by omega) (by omega) hu (Lib.hid (by rw [RN_same (x':=q) (y':=1) (by omega) (by omega) (by rw [he]; grind),RN_one])) (Lib.hid (by rw [RD_same (x':=q) (y':=1) (by omega) (by omega) (by rw [he]; grind),RD_one]))
end
theorem getT_get2 {L:List Int} {i:Nat} {z:Int} (h:L[i]? = some z):L.getD i 0 = z:=by simp [List.getD,h]
theorem wpnorm {px:Option Addr} {m cx:Nat} {zs:List Int} {w:World} (hR:Rs w px m (zs.map fun z => (z,1)) 2048) (h0:m ≠ 0) (hm:m ≤ 1048576) (ht:zs.getD (m - 1) 0 ≠ 0) :
  Calls Tryd.prog 53 #[.slice px m cx] w (Ret (PQt m zs) w):=by
 have hzl:=hR.lenw
 have hS:=Sep.init w
 refine went Tryd.func53 rfl (n:=38) rfl rfl ?_
 refine wsr (wavc ?_)
 refine wn2 (wmv (v:=.slice px m cx) rfl rfl ?_)
 refine wl rfl (olen rfl rfl rfl Tryd.runUnderlying69 (p:=px) (k:=m) (m:=cx) (ev rfl rfl) ?_)
 refine wav (v:=.int .i64 (m:Int)) rfl rfl ?_
 refine wn1 (wSq (wBk ?_))
 refine wLp (σ := Nat) (fun a a9 w' => ∃ (fb:Nat → Value),a9 = act 38 (sets fb [(0,.slice px m cx),(2,.slice none 0 0),(3,.int .i64 (m:Int))]) ∧ Sep w [] w') (fun a => 0) (0) ⟨_,aSs ⟨rfl,rfl,rfl,trivial⟩,hS⟩ ?_
 clear hS; rintro a _ w1 ⟨fb,rfl,hS⟩
 refine wSq (wsr (wmv (v:=.int .i64 (m:Int)) rfl rfl ?_))
 refine wbc (u:=.int .i64 (m:Int)) (v:=.int .i64 0) rfl rfl (bin_gtr (decide_eq_true (by omega))) ?_
 refine wmv (v:=.bool true) rfl rfl ?_
 refine wlOn (e:=10) rfl rfl rfl rfl (omove (v:=.slice px m cx) rfl rfl (ev rfl rfl) ?_)
 refine wlOn (e:=10) rfl rfl rfl rfl (omove (v:=.int .i64 (m:Int)) rfl rfl (ev rfl rfl) ?_)
 refine wlOn (e:=10) rfl rfl rfl rfl (obin (u:=.int .i64 (m:Int)) (v:=.int .i64 1) (z:=.int .i64 ((m - 1:Nat):Int)) rfl rfl (ev rfl rfl) evc (bin_sub (by rw [show (m:Int) - 1 = ((m - 1:Nat):Int) by omega]; exact wI6 (by omega) (by omega))) ?_)
 obtain ⟨zt,gt,ot,bt,pt,nt,ct,bbt,qt,mt,dt,hlt,hpt,hct,hzt,hot⟩:=hR.elw (show m - 1 < m by omega)
 have hnt:zt ≠ 0:=by have h9:=getT_get2 hlt; rw [h9] at ht; exact ht
 refine wlOn (e:=10) rfl rfl rfl rfl (oIx (p:=px) (g:=gt) (off:=ot) (m:=m) (k:=(m - 1)) (j:=(ot + ((m - 1)) * 4)) rfl rfl Tryd.runUnderlying69 Tryd.sizeOf91 (ev rfl rfl) hpt (ev rfl rfl) ((show m - 1 < m by omega)) rfl ?_)
 refine wlOn (e:=10) rfl rfl rfl rfl (oloadA (vs:=[.bool bt,.slice pt nt ct,.bool bbt,.slice qt mt dt]) aggR rfl rfl (ev (v:=.pointer (some ⟨gt,(ot + ((m - 1)) * 4),none⟩)) rfl rfl) (fun j v hj => hS.cellAt (hct j v hj)) rfl ?_)
 refine wlOn (e:=10) rfl rfl rfl rfl (oCl rfl rfl Tryd.call82 rfl ((wssign (s:=zt.sign) ((hzt.at hS).mono (by omega)) ((hot.at hS).mono (by omega)) (by decide) (Lib.hid (by simp)))) (ar1 (ev rfl rfl)) ?_)
 rintro _ w2 ⟨_,_,rfl,⟨rfl,rfl⟩,hN⟩
 refine ⟨_,rfl,?_⟩
 replace hS:=hS.news hN; clear hN
 refine wlOn (e:=10) rfl rfl rfl rfl (obin (u:=.int .i64 zt.sign) (v:=.int .i64 0) (z:=.bool false) rfl rfl (ev rfl rfl) evc (bEq (eqF (fun h9 => hnt (Int.sign_eq_zero_iff_zero.1 h9)))) ?_)
 refine wl rfl (opick (b:=true) (v:=.bool false) rfl rfl (ev rfl rfl) (ev rfl rfl) ?_)
 refine wn1 ?_
 refine wF (ev rfl rfl) ?_
 refine wEx ?_
 refine tEx ?_
 refine tEx ?_
 refine blkE ?_
 refine tNo (wsr (wmv (v:=.int .i64 (m:Int)) rfl rfl ?_))
 refine wl rfl (omakeL (zs:=[.bool false,.slice none 0 0,.bool false,.slice none 0 0]) (k:=m) (m:=m) hS rfl rfl Tryd.underlying69 infoRat rfl rfl (by decide) rfl (ev (v:=.int .i64 (m:Int)) rfl rfl) (ev (v:=.int .i64 (m:Int)) rfl rfl) (by omega) (by omega) (by omega) ?_)
 clear hS; intro g3 w4 hS
 refine wav (v:=.slice (some ⟨g3,0,none⟩) m m) rfl rfl ?_
 refine wn1 (wSq (wsr (wmv (v:=.slice (some ⟨g3,0,none⟩) m m) rfl rfl ?_)))
 refine wl rfl (olen rfl rfl rfl Tryd.runUnderlying69 (p:=(some ⟨g3,0,none⟩)) (k:=m) (m:=m) (ev rfl rfl) ?_)
 refine wmvc ?_
 refine wn1 (wBk ?_)
 rw [show List.replicate m (⟨[.bool false,.slice none 0 0,.bool false,.slice none 0 0],[]⟩:El) = iqs [] ++ List.replicate (m - 0) nilQ from rfl] at hS
 refine wLp (σ := Nat) (fun k a9 w' => ∃ (fb:Nat → Value) (L:List Iq),a9 = act 38 (sets fb [(0,.slice px m cx),(2,.slice none 0 0),(4,.slice (some ⟨g3,0,none⟩) m m),(24,.int .i64 (m:Int)),(25,.int .i64 (k:Int))]) ∧ Sep w [.lst 91 4 (some ⟨g3,0,none⟩) m m (iqs L ++ List.replicate (m - k) nilQ)] w' ∧ (k ≤ m) ∧ (izs L = zs.take k)) (fun k => m - k) (0) ⟨_,[],aSs ⟨rfl,rfl,rfl,rfl,rfl,trivial⟩,hS,Nat.zero_le _,rfl⟩ ?_
 clear hS; rintro k _ w5 ⟨fb,L,rfl,hS,hk,hL⟩
 refine wsr ?_
 by_cases hlk:k < m
 ·
  refine wbt (u:=.int .i64 (k:Int)) (v:=.int .i64 (m:Int)) rfl rfl rfl rfl (bLs (decide_eq_true (by omega))) ?_
  refine wn1 (wSq ?_)
  refine wT (ev rfl rfl) ?_
  refine wk2 (wmv (v:=.int .i64 (k:Int)) rfl rfl ?_)
  refine wav (v:=.int .i64 (k:Int)) rfl rfl ?_
  refine wn1 (wreg (wmv (v:=.slice (some ⟨g3,0,none⟩) m m) rfl rfl ?_))
  refine wmv (v:=.int .i64 (k:Int)) rfl rfl ?_
  refine wmv (v:=.slice px m cx) rfl rfl ?_
  refine wmv (v:=.int .i64 (k:Int)) rfl rfl ?_
  obtain ⟨ze,ge,oe,be,pe,ne,ce,bbe,qe,me,de,hle,hpe,hce,hze,hoe⟩:=hR.elw hlk
  refine wl rfl (oIx (p:=px) (g:=ge) (off:=oe) (m:=m) (k:=k) (j:=(oe + k * 4)) rfl rfl Tryd.runUnderlying69 Tryd.sizeOf91 (ev rfl rfl) hpe (ev rfl rfl) hlk rfl ?_)
  refine wl rfl (oloadA (vs:=[.bool be,.slice pe ne ce,.bool bbe,.slice qe me de]) aggR rfl rfl (ev (v:=.pointer (some ⟨ge,(oe + k * 4),none⟩)) rfl rfl) (fun j v hj => hS.cellAt (hce j v hj)) rfl ?_)
  obtain ⟨z1,hz1⟩:∃ z:Int,Hid (ze = z):=⟨_,rfl⟩
  have hk1:Wd z1 2048:=by rw [← hz1.out]; exact hze.wd
  have hk2:Wd 1 2:=wd1
  refine wcl Tryd.call45 ((show Calls _ _ _ _ (Ret (Rrt z1 1) _) from by rw [← hz1.out]; exact winorm ((hze.at hS).mono (by omega)) ((hoe.at hS).mono (by omega)))) (ar1 (ev rfl rfl)) hS ?_
  clear hS; rintro _ _ w6 ⟨p1,n1,c1,p2,n2,c2,rfl,rfl⟩ hS
  refine wl rfl (oIx (p:=(some ⟨g3,0,none⟩)) (g:=g3) (off:=0) (m:=m) (k:=k) (j:=(0 + k * 4)) rfl rfl Tryd.runUnderlying69 Tryd.sizeOf91 (ev rfl rfl) (rfl) (ev rfl rfl) (by omega) rfl ?_)
  refine wl rfl (ostoreL (i:=k) (g:=g3) [.bool (ng z1),.slice p1 n1 c1,.bool (ng 1),.slice p2 n2 c2] [.rowm p1 n1 c1 (lim z1.natAbs),.rowm p2 n2 c2 (lim (1:Int).natAbs)] Tryd.sizeOf91 hS rfl rfl (ev (v:=.pointer (some ⟨g3,(0 + k * 4),none⟩)) rfl rfl) (ev (v:=.agg #[.bool (ng z1),.slice p1 n1 c1,.bool (ng 1),.slice p2 n2 c2]) rfl rfl) (rfl) rfl rfl rfl rfl (by omega) rfl ?_)
  clear hS; intro w7 hS
  refine wnil (blkN (tNo (wreg (wbc (u:=.int .i64 (k:Int)) (v:=.int .i64 1) (z:=.int .i64 ((k + 1:Nat):Int)) rfl rfl (bAd (wI6 (by omega) (by omega))) ?_))))
  refine wmv (v:=.int .i64 ((k + 1:Nat):Int)) rfl rfl ?_
  refine wn1 ?_
  have hLk:L.length = k:=by rw [← izs_len,hL,List.length_take]; omega
  have hfq:=fillQ (m:=m - (k + 1)) (e:=⟨p1,n1,c1,p2,n2,c2,z1⟩) hLk
  rw [show m - (k + 1) + 1 = m - k by omega] at hfq
  rw [show (⟨[.bool (ng z1),.slice p1 n1 c1,.bool (ng 1),.slice p2 n2 c2],[.rowm p1 n1 c1 (lim z1.natAbs),.rowm p2 n2 c2 (lim (1:Int).natAbs)]⟩:El) = iqE ⟨p1,n1,c1,p2,n2,c2,z1⟩ from rfl,hfq] at hS
  have hz0:z1 = ze:=hz1.out.symm
  exact ⟨(k + 1),⟨_,_,aSs ⟨rfl,rfl,rfl,rfl,rfl,trivial⟩,hS.pick [0] (by decide) rfl,by omega,by rw [izs_snoc,hL,hz0,take_next hle]⟩,by omega⟩
 refine wbt (u:=.int .i64 (k:Int)) (v:=.int .i64 (m:Int)) rfl rfl rfl rfl (bLs (decide_eq_false (by omega))) ?_
 refine wn1 (wSq ?_)
 refine wF (ev rfl rfl) ?_
 refine wEx ?_
 refine tEx ?_
 refine tEx ?_
 refine blkE ?_
 refine tNo (wsr (wmv (v:=.slice (some ⟨g3,0,none⟩) m m) rfl rfl ?_))
 refine wav (v:=.slice (some ⟨g3,0,none⟩) m m) rfl rfl ?_
 refine wn1 ?_
 refine wLv ?_
 refine wr1 Tryd.results53 (tlT (v:=.slice (some ⟨g3,0,none⟩) m m) rfl rfl) ?_
 have hkm:k = m:=by omega
 rw [show m - k = 0 by omega,List.replicate_zero,List.append_nil] at hS
 exact ⟨_,_,rfl,⟨_,_,L,by rw [hL,List.take_of_length_le (by omega)],rfl,rfl⟩,hS.newR 0 rfl rfl⟩
open Go.RowKit
def Lc (m:Nat) (f:Int → Int) (l:Int):Prop := ∃ c:Nat → Int,(∀ x,f x = pv (m + 1) c x) ∧ c m = l
theorem pv_S (N:Nat) (c:Nat → Int) (x:Int):pv (N + 1) c x = pv N c x + c N * pw x N:=rfl
theorem pv_head (N:Nat) (c:Nat → Int) (x:Int):pv (N + 1) c x = c 0 + x * pv N (fun i => c (i + 1)) x:=by
  unfold pv
  rw [su_head, ← su_mul]
  show c 0 * 1 + _ = _
  rw [Int.mul_one]; congr 1
  exact su_congr fun i _ => by rw [pw]; grind
theorem Lc.add {m:Nat} {f g:Int → Int} {a b:Int} (hf:Lc m f a) (hg:Lc m g b):Lc m (fun x => f x + g x) (a + b):=by
  obtain ⟨c,hc,h1⟩:=hf
  obtain ⟨d,hd,h2⟩:=hg
  refine ⟨fun i => c i + d i,fun x => ?_,by dsimp only; rw [h1,h2]⟩
  dsimp only
  rw [hc,hd]; unfold pv; rw [← su_add]
  exact su_congr fun i _ => by rw [Int.add_mul]
theorem Lc.smul {m:Nat} {f:Int → Int} {a:Int} (k:Int) (hf:Lc m f a):Lc m (fun x => k * f x) (k * a):=by
  obtain ⟨c,hc,h1⟩:=hf
  refine ⟨fun i => k * c i,fun x => ?_,by dsimp only; rw [h1]⟩
  dsimp only
  rw [hc]; unfold pv; rw [← su_mul]
  exact su_congr fun i _ => (Int.mul_assoc ..).symm
theorem Lc.of_eq {m:Nat} {f g:Int → Int} {a b:Int} (hf:Lc m f a) (h:∀ x,g x = f x) (hb:b = a):Lc m g b:=by
  obtain ⟨c,hc,h1⟩:=hf; exact ⟨c,fun x => (h x).trans (hc x),h1.trans hb.symm⟩
theorem Lc.zero (m:Nat):Lc m (fun _ => 0) 0:=⟨fun _ => 0,fun x => (su_zero fun i _ => Int.zero_mul _).symm,rfl⟩
theorem Lc.xmul {m:Nat} {f:Int → Int} {a:Int} (hf:Lc m f a):Lc (m + 1) (fun x => x * f x) a:=by
  obtain ⟨c,hc,h1⟩:=hf
  refine ⟨fun i => if i = 0 then 0 else c (i - 1),fun x => ?_,by dsimp only; rw [if_neg (by omega)]; exact h1⟩
  dsimp only
  rw [hc,pv_head (m + 1),if_pos rfl,Int.zero_add]
  rfl
theorem Lc.up {m:Nat} {f:Int → Int} {a:Int} (hf:Lc m f a):Lc (m + 1) f 0:=by
  obtain ⟨c,hc,_⟩:=hf
  refine ⟨fun i => if i < m + 1 then c i else 0,fun x => ?_,if_neg (by omega)⟩
  rw [hc,pv_more (Nat.le_succ (m + 1))]
theorem Lc.upto {m:Nat} {f:Int → Int} {a:Int} (hf:Lc m f a):∀ k,Lc (m + (k + 1)) f 0
  | 0 => hf.up
  | k + 1 => (hf.upto k).up
theorem Lc.mul:∀ {m k:Nat} {f g:Int → Int} {a b:Int},Lc m f a → Lc k g b → Lc (m + k) (fun x => f x * g x) (a * b)
 | 0,k,f,g,a,b,hf,hg => by
  obtain ⟨c,hc,h1⟩:=hf
  rw [Nat.zero_add]
  refine (hg.smul a).of_eq (fun x => ?_) rfl
  rw [hc, ← h1]; show (0 + c 0 * 1) * g x = _; rw [Int.mul_one,Int.zero_add]
 | m + 1,k,f,g,a,b,hf,hg => by
  obtain ⟨c,hc,h1⟩:=hf
  have ih:=Lc.mul (m:=m) (f:=pv (m + 1) fun i => c (i + 1)) (a:=a) ⟨fun i => c (i + 1),fun _ => rfl,h1⟩ hg
  have h2:=ih.xmul
  rw [show m + k + 1 = m + 1 + k by omega] at h2
  have h3:=(hg.smul (c 0)).upto m
  rw [show k + (m + 1) = m + 1 + k by omega] at h3
  refine (h3.add h2).of_eq (fun x => ?_) (by omega)
  rw [hc,pv_head]
  grind
theorem Lc.su {m:Nat} {f:Nat → Int → Int} {a:Nat → Int}:∀ {n:Nat},(∀ i,i < n → Lc m (f i) (a i)) → Lc m (fun x => su n fun i => f i x) (su n a)
  | 0,_ => Lc.zero m
  | n + 1,h => (Lc.su fun i hi => h i (by omega)).add (h n (by omega))
def sN:Nat → (Nat → Nat) → Nat
  | 0,_ => 0
  | n + 1,g => sN n g + g n
theorem sN_skip (g:Nat → Nat):∀ n i,i < n + 1 → sN (n + 1) g = g i + sN n fun r => g (if r < i then r else r + 1)
 | 0,i,hi => by
  obtain rfl:i = 0:=by omega
  show 0 + g 0 = g 0 + 0; omega
 | n + 1,i,hi => by
  by_cases e:i = n + 1
  ·subst e
   have:sN (n + 1) g = sN (n + 1) fun r => g (if r < n + 1 then r else r + 1):=by
    have:∀ k,k ≤ n + 1 → sN k g = sN k fun r => g (if r < n + 1 then r else r + 1):=fun k => by
     induction k with
     | zero => exact fun _ => rfl
     | succ k ih => exact fun hk => by rw [sN,sN,ih (by omega),if_pos (by omega)]
    exact this _ (Nat.le_refl _)
   rw [sN,this]; omega
  rw [sN,sN_skip g n i (by omega),sN,if_neg (by omega)]; omega
theorem dt_lc:∀ {n:Nat} {g:Nat → Nat} {A:Int → Nat → Nat → Int} {P:Nat → Nat → Int},(∀ r c,r < n → c < n → Lc (g r) (fun x => A x r c) (P r c)) → Lc (sN n g) (fun x => dt n (A x)) (dt n P)
 | 0,_,_,_,_ => ⟨fun _ => 1,fun x => by show (1:Int) = 0 + 1 * 1; omega,rfl⟩
 | n + 1,g,A,P,h => by
  refine Lc.su (f:=fun i x => sg i * A x i 0 * dt n (mnr (A x) i)) (a:=fun i => sg i * P i 0 * dt n (mnr P i)) fun i hi => ?_
  have ih:=dt_lc (n:=n) (g:=fun r => g (if r < i then r else r + 1)) (A:=fun x => mnr (A x) i) (P:=mnr P i) fun r c hr hc => h _ _ (by split <;> omega) (by omega)
  have h1:=((h i 0 hi (by omega)).smul (sg i)).mul ih
  rw [← sN_skip g n i hi] at h1
  exact h1
def xN (N:Nat → Nat → Int) (x:Int):Nat → Nat → Int:=fun r c => (if r = c then x else 0) - N r c
def adj (n:Nat) (A:Nat → Nat → Int) (i j:Nat):Int:=dt n (up A j fun c => dl i c)
theorem dt_expand {n j:Nat} {A:Nat → Nat → Int} (hj:j < n) (u:Nat → Int):dt n (up A j u) = su n fun i => u i * adj n A i j:=by
 have h:∀ m,dt n (up A j fun c => su m fun i => u i * dl i c) = su m fun i => u i * adj n A i j:=fun m => by
  induction m with
  | zero =>
   refine dt_zero hj fun c _ => ?_
   rw [up_at]; rfl
  | succ m ih =>
   have:=dt_lin (a:=1) (b:=u m) (A:=A) (u:=fun c => su m fun i => u i * dl i c) (v:=fun c => dl m c) hj
   rw [ih] at this
   rw [su, ← show 1 * su m (fun i => u i * adj n A i j) + u m * adj n A m j = su m (fun i => u i * adj n A i j) + u m * adj n A m j by omega, ← show dt n (up A j fun c => dl m c) = adj n A m j from rfl, ← this]
   exact dt_congr fun r c _ _ => by
    unfold up
    split
    ·show su m (fun i => u i * dl i c) + u m * dl m c = 1 * su m (fun i => u i * dl i c) + u m * dl m c; omega
    rfl
 rw [← h n]
 refine dt_congr fun r c _ hc => ?_
 unfold up
 split
 ·exact (su_dl hc u).symm
 rfl
theorem adj_row {n j k:Nat} {A:Nat → Nat → Int} (hj:j < n) (hk:k < n):su n (fun i => A k i * adj n A i j) = if k = j then dt n A else 0:=by
 rw [← dt_expand hj (A k)]
 by_cases e:k = j
 ·subst e; rw [if_pos rfl,up_self]
 rw [if_neg e]
 exact dt_same hj hk (fun h => e h.symm) (by rw [up_at,up_ne e])
theorem dt_move {n:Nat} {N:Nat → Nat → Int} (x:Int) (h:Nat):∃ R:Int,dt n (xN N (x + h)) = dt n (xN N x) + h * su n (fun i => adj n (xN N x) i i) + h * h * R:=by
 have go:∀ m,m ≤ n → ∃ R:Int,dt n (fun r => if r < m then xN N (x + h) r else xN N x r) = dt n (xN N x) + h * su m (fun i => adj n (xN N x) i i) + h * h * R:=fun m => by
  induction m with
  | zero =>
   intro _
   refine ⟨0,?_⟩
   rw [show (fun r => if r < 0 then xN N (x + h) r else xN N x r) = xN N x from funext fun r => if_neg (by omega)]
   show _ = dt n (xN N x) + h * 0 + h * h * 0; omega
  | succ m ih =>
   intro hm
   obtain ⟨R,hR⟩:=ih (by omega)
   have hl:=dt_lin (a:=1) (b:=(h:Int)) (A:=fun r => if r < m then xN N (x + h) r else xN N x r) (u:=xN N x m) (v:=fun c => dl m c) (show m < n by omega)
   have e1:up (fun r => if r < m then xN N (x + h) r else xN N x r) m (xN N x m) = fun r => if r < m then xN N (x + h) r else xN N x r:=by
    funext r; unfold up
    by_cases e:r = m
    ·subst e; rw [if_pos rfl,if_neg (by omega)]
    rw [if_neg e]
   have e2:up (fun r => if r < m then xN N (x + h) r else xN N x r) m (fun c => 1 * xN N x m c + (h:Int) * dl m c) = fun r => if r < m + 1 then xN N (x + h) r else xN N x r:=by
    funext r; unfold up
    by_cases e:r = m
    ·subst e
     rw [if_pos rfl,if_pos (by omega)]
     funext c
     unfold xN dl
     by_cases e3:r = c
     ·simp only [if_pos e3]; show 1 * (x - N r c) + (h:Int) * 1 = _; omega
     simp only [if_neg e3]; show 1 * (0 - N r c) + (h:Int) * 0 = _; omega
    rw [if_neg e]
    dsimp only
    by_cases e3:r < m
    ·rw [if_pos e3,if_pos (by omega)]
    rw [if_neg e3,if_neg (by omega)]
   have e3:Em h (dt n (up (fun r => if r < m then xN N (x + h) r else xN N x r) m fun c => dl m c)) (adj n (xN N x) m m):=dt_em fun r c _ _ => by
    unfold up
    by_cases e:r = m
    ·rw [if_pos e,if_pos e]; exact Em.rf _
    rw [if_neg e,if_neg e]
    dsimp only
    by_cases e4:r < m
    ·rw [if_pos e4]
     unfold xN
     by_cases e5:r = c
     ·rw [if_pos e5,if_pos e5]; exact ⟨1,by omega⟩
     rw [if_neg e5,if_neg e5]; exact Em.rf _
    rw [if_neg e4]; exact Em.rf _
   obtain ⟨S,hS⟩:=e3
   rw [e1,e2,hR] at hl
   refine ⟨R + S,?_⟩
   rw [hl,su]
   have:dt n (up (fun r => if r < m then xN N (x + h) r else xN N x r) m fun c => dl m c) = adj n (xN N x) m m + h * S:=by omega
   rw [this]
   grind
 obtain ⟨R,hR⟩:=go n (Nat.le_refl _)
 refine ⟨R,?_⟩
 rw [← hR]
 exact dt_congr fun r c hr _ => by rw [if_pos hr]
theorem pw_move (x:Int) (h:Nat):∀ k, ∃ S:Int,pw (x + h) k = pw x k + h * (k * pw x (k - 1)) + h * h * S
 | 0 => ⟨0,by show (1:Int) = 1 + h * (0 * 1) + _; omega⟩
 | 1 => ⟨0,by show (x + h) * 1 = x * 1 + h * (1 * 1) + _; omega⟩
 | k + 2 => by
  obtain ⟨S,hS⟩:=pw_move x h (k + 1)
  refine ⟨x * S + h * S + (k + 1:Nat) * pw x k,?_⟩
  rw [pw,hS]
  show _ = x * pw x (k + 1) + h * (((k + 2:Nat):Int) * pw x (k + 1)) + _
  rw [show pw x (k + 1) = x * pw x k from rfl,show k + 1 - 1 = k by omega]
  have e:((k + 2:Nat):Int) = ((k + 1:Nat):Int) + 1:=by omega
  rw [e]
  generalize ((k + 1:Nat):Int) = q
  generalize pw x k = y
  grind
theorem pv_move (c:Nat → Int) (x:Int) (h:Nat):∀ N, ∃ S:Int,pv (N + 1) c (x + h) = pv (N + 1) c x + h * pv N (fun l => ((l + 1:Nat):Int) * c (l + 1)) x + h * h * S
 | 0 => ⟨0,by show 0 + c 0 * 1 = 0 + c 0 * 1 + h * 0 + h * h * 0; omega⟩
 | N + 1 => by
  obtain ⟨S,hS⟩:=pv_move c x h N
  obtain ⟨T,hT⟩:=pw_move x h (N + 1)
  refine ⟨S + c (N + 1) * T,?_⟩
  rw [pv_S (N + 1),hS,hT,pv_S (N + 1) c x,pv_S N (fun l => ((l + 1:Nat):Int) * c (l + 1)) x]
  rw [show N + 1 - 1 = N by omega]
  generalize pw x N = y
  generalize pw x (N + 1) = z
  generalize ((N + 1:Nat):Int) = q
  grind
structure Lev (n:Nat) (N:Nat → Nat → Int) (d:Nat → Int) (b:Nat → Nat → Nat → Int):Prop where
  val:∀ x,dt n (xN N x) = pv (n + 1) d x
  top:d n = 1
  b0:∀ r c,r < n → c < n → b 0 r c = dl r c
  bs:∀ m r c,m + 1 < n → r < n → c < n → b (m + 1) r c = mm n N (b m) r c + d (n - (m + 1)) * dl r c
  tr:∀ m,m < n → su n (fun i => mm n N (b m) i i) = -(((m + 1:Nat):Int)) * d (n - (m + 1))
theorem xN_lc {N:Nat → Nat → Int} (r c:Nat):Lc 1 (fun x => xN N x r c) (dl r c):=by
  refine ⟨fun i => if i = 0 then -N r c else dl r c,fun x => ?_,rfl⟩
  show _ = 0 + (-N r c) * 1 + dl r c * (x * 1)
  unfold xN dl
  dsimp only
  by_cases e:r = c
  · rw [if_pos e,if_pos e]; show x - N r c = 0 + (-N r c) * 1 + 1 * (x * 1); omega
  rw [if_neg e,if_neg e]; show 0 - N r c = 0 + (-N r c) * 1 + 0 * (x * 1); omega
theorem sN_one:∀ n,sN n (fun _ => 1) = n
  | 0 => rfl
  | n + 1 => by rw [sN,sN_one n]
theorem sN_but {j:Nat}:∀ n,j < n → sN n (fun r => if r = j then 0 else 1) = n - 1
 | n + 1,h => by
  rw [sN]
  by_cases e:n = j
  ·subst e
   rw [if_pos rfl]
   have:∀ k,k ≤ n → sN k (fun r => if r = n then 0 else 1) = k:=fun k => by
    induction k with
    | zero => exact fun _ => rfl
    | succ k ih => exact fun hk => by rw [sN,ih (by omega),if_neg (by omega)]
   rw [this n (Nat.le_refl _)]; omega
  rw [if_neg e,sN_but n (by omega)]; omega
theorem pv_inj {N:Nat} {c d:Nat → Int} (h:∀ x,pv N c x = pv N d x):∀ i,i < N → c i = d i:=fun i hi => by
 have h1:=pv_zero (N:=N) (c:=fun i => c i - d i) (fun x _ => by
  have h2:=h x
  unfold pv at h2 ⊢
  rw [su_congr (g:=fun i => c i * pw x i + (-1) * (d i * pw x i)) fun i _ => by grind,su_add,su_mul]; omega) i hi
 have h3:c i - d i = 0:=h1
 omega
theorem all_dvd {z:Int} (h:∀ k:Nat,0 < k → ((k:Nat):Int) ∣ z):z = 0:=by
 by_cases e:z = 0
 ·exact e
 have h1:=h (z.natAbs + 1) (by omega)
 have h2:=Int.le_of_dvd (b:=((z.natAbs:Nat):Int)) (by omega) (Int.dvd_natAbs.2 h1)
 omega
theorem lev_ex {n:Nat} (h0:n ≠ 0) (N:Nat → Nat → Int):∃ d b,Lev n N d b:=by
 have hD:=dt_lc (n:=n) (g:=fun _ => 1) (A:=xN N) (P:=dl) fun r c _ _ => xN_lc r c
 rw [sN_one] at hD
 obtain ⟨d,hd,htop⟩:=hD
 replace hd:∀ x,dt n (xN N x) = pv (n + 1) d x:=hd
 have htop':d n = 1:=by
  rw [htop, ← dt_id n]; exact dt_congr fun r c _ _ => rfl
 -- the adjugate's coefficients
 have hA:∀ i j, ∃ a:Nat → Int,j < n → ∀ x,adj n (xN N x) i j = pv n a x:=fun i j => by
  by_cases hj:j < n
  ·have h:=dt_lc (n:=n) (g:=fun r => if r = j then 0 else 1) (A:=fun x => up (xN N x) j fun c => dl i c) (P:=fun r c => if r = j then dl i c else dl r c) fun r c _ _ => by
    by_cases e:r = j
    ·subst e
     rw [if_pos rfl,if_pos rfl]
     exact ⟨fun _ => dl i c,fun x => by show up (xN N x) r (fun c => dl i c) r c = 0 + dl i c * 1; rw [up_at]; omega,rfl⟩
    rw [if_neg e,if_neg e]
    exact (xN_lc r c).of_eq (fun x => by rw [up_ne e]) rfl
   rw [sN_but n hj] at h
   obtain ⟨a,ha,_⟩:=h
   rw [show n - 1 + 1 = n by omega] at ha
   exact ⟨a,fun _ => ha⟩
  exact ⟨fun _ => 0,fun h => absurd h hj⟩
 obtain ⟨a,ha⟩:=Classical.axiomOfChoice (r:=fun (ij:Nat × Nat) (a:Nat → Int) => ij.2 < n → ∀ x,adj n (xN N x) ij.1 ij.2 = pv n a x) (fun ij => hA ij.1 ij.2)
 have ha':∀ i j,j < n → ∀ x,adj n (xN N x) i j = pv n (a (i,j)) x:=fun i j => ha (i,j)
 -- (x I - N) adj = D I,coefficient by coefficient
 have hco:∀ k j l,k < n → j < n → l < n + 1 → (if l = 0 then 0 else a (k,j) (l - 1)) = (if l < n then su n fun i => N k i * a (i,j) l else 0) + d l * dl k j:=fun k j l hk hj hl => by
  refine pv_inj (N:=n + 1) (c:=fun l => if l = 0 then 0 else a (k,j) (l - 1)) (d:=fun l => (if l < n then su n fun i => N k i * a (i,j) l else 0) + d l * dl k j) (fun x => ?_) l hl
  have h1:=adj_row (A:=xN N x) hj hk
  have h2:su n (fun i => xN N x k i * adj n (xN N x) i j) = x * pv n (a (k,j)) x - su n fun i => N k i * pv n (a (i,j)) x:=by
   rw [su_congr (g:=fun i => (if i = k then x * pv n (a (i,j)) x else 0) + (-1) * (N k i * pv n (a (i,j)) x)) fun i _ => by
    rw [ha' i j hj x]; unfold xN
    by_cases e:k = i
    ·subst e; rw [if_pos rfl,if_pos rfl]; grind
    rw [if_neg e,if_neg (fun h => e h.symm)]; grind,su_add,su_mul,su_one (f:=fun i => x * pv n (a (i,j)) x) hk]
   omega
  have h3:su n (fun i => N k i * pv n (a (i,j)) x) = pv n (fun l => su n fun i => N k i * a (i,j) l) x:=by
   unfold pv
   rw [su_congr (g:=fun i => su n fun l => N k i * a (i,j) l * pw x l) fun i _ => by
    rw [← su_mul]; exact su_congr fun l _ => (Int.mul_assoc ..).symm,su_swap]
   exact su_congr fun l _ => su_mulr _ _ _
  have h4:(if k = j then dt n (xN N x) else 0) = pv (n + 1) (fun l => d l * dl k j) x:=by
   unfold dl
   by_cases e:k = j
   ·rw [if_pos e,hd]; exact su_congr fun l _ => by simp only [if_pos e]; show d l * pw x l = d l * 1 * pw x l; rw [Int.mul_one]
   rw [if_neg e]; exact (su_zero fun l _ => by simp only [if_neg e]; show d l * 0 * pw x l = 0; rw [Int.mul_zero,Int.zero_mul]).symm
  rw [h2,h3,h4] at h1
  have h5:pv (n + 1) (fun l => if l = 0 then 0 else a (k,j) (l - 1)) x = x * pv n (a (k,j)) x:=by
   rw [pv_head,if_pos rfl,Int.zero_add]; rfl
  have h6:pv (n + 1) (fun l => (if l < n then su n fun i => N k i * a (i,j) l else 0) + d l * dl k j) x = pv n (fun l => su n fun i => N k i * a (i,j) l) x + pv (n + 1) (fun l => d l * dl k j) x:=by
   rw [pv_more (Nat.le_succ n)]; unfold pv; rw [← su_add]
   exact su_congr fun l _ => by rw [Int.add_mul]
  rw [h5,h6]; omega
 -- the trace is the derivative
 have htr:∀ l,l < n → ((l + 1:Nat):Int) * d (l + 1) = su n fun i => a (i,i) l:=by
  refine pv_inj (N:=n) fun x => ?_
  have hz:pv n (fun l => ((l + 1:Nat):Int) * d (l + 1)) x - su n (fun i => adj n (xN N x) i i) = 0:=all_dvd fun h hh => by
   obtain ⟨R,hR⟩:=dt_move (n:=n) (N:=N) x h
   obtain ⟨S,hS⟩:=pv_move d x h n
   rw [hd,hd,hS] at hR
   refine ⟨R - S,?_⟩
   have h9:(h:Int) * (pv n (fun l => ((l + 1:Nat):Int) * d (l + 1)) x - su n (fun i => adj n (xN N x) i i)) = (h:Int) * (h * (R - S)):=by grind
   exact Int.eq_of_mul_eq_mul_left (by omega) h9
  have h2:su n (fun i => adj n (xN N x) i i) = pv n (fun l => su n fun i => a (i,i) l) x:=by
   rw [su_congr (g:=fun i => pv n (a (i,i)) x) fun i hi => ha' i i hi x]
   unfold pv
   rw [su_swap]
   exact su_congr fun l _ => su_mulr _ _ _
  rw [h2] at hz; omega
 refine ⟨d,fun m r c => a (r,c) (n - 1 - m),hd,htop',fun r c hr hc => ?_,fun m r c hm hr hc => ?_,fun m hm => ?_⟩
 ·have h:=hco r c n hr hc (by omega)
  rw [if_neg h0,if_neg (by omega),htop',Int.one_mul,Int.zero_add] at h
  rw [Nat.sub_zero]; exact h
 ·have h:=hco r c (n - (m + 1)) hr hc (by omega)
  rw [if_neg (by omega),if_pos (by omega)] at h
  show a (r,c) (n - 1 - (m + 1)) = su n (fun i => N r i * a (i,c) (n - 1 - m)) + _
  rw [show n - 1 - (m + 1) = n - (m + 1) - 1 by omega,show n - 1 - m = n - (m + 1) by omega]
  exact h
 have h1:su n (fun i => mm n N (fun r c => a (r,c) (n - 1 - m)) i i) = su n fun i => (if n - (m + 1) = 0 then 0 else a (i,i) (n - (m + 1) - 1)) + (-1) * (d (n - (m + 1)) * dl i i):=su_congr fun i hi => by
  have h:=hco i i (n - (m + 1)) hi hi (by omega)
  rw [if_pos (show n - (m + 1) < n by omega)] at h
  show su n (fun j => N i j * a (j,i) (n - 1 - m)) = _
  rw [show n - 1 - m = n - (m + 1) by omega]
  generalize d (n - (m + 1)) * dl i i = q at h ⊢
  generalize su n (fun j => N i j * a (j,i) (n - (m + 1))) = s at h ⊢
  generalize (if n - (m + 1) = 0 then 0 else a (i,i) (n - (m + 1) - 1)) = u at h ⊢
  omega
 rw [h1,su_add,su_mul,su_mul]
 have h2:su n (fun i => dl i i) = (n:Int):=by
  have:∀ k,su k (fun i => dl i i) = (k:Int):=fun k => by
   induction k with
   | zero => rfl
   | succ k ih => rw [su,ih]; unfold dl; rw [if_pos rfl]; omega
  exact this n
 rw [h2]
 by_cases e:n - (m + 1) = 0
 ·rw [su_zero fun i _ => if_pos e,e]
  have:((m + 1:Nat):Int) = n:=by omega
  rw [this]; grind
 rw [su_congr (g:=fun i => a (i,i) (n - (m + 1) - 1)) fun i _ => if_neg e, ← htr _ (by omega)]
 rw [show n - (m + 1) - 1 + 1 = n - (m + 1) by omega]
 have:((n - (m + 1):Nat):Int) = (n:Int) - ((m + 1:Nat):Int):=by omega
 rw [this]
 generalize d (n - (m + 1)) = q
 generalize ((m + 1:Nat):Int) = u
 grind
open Go.RowKit
def bb (n:Nat) (N:Nat → Nat → Int) (d:Nat → Int):Nat → Nat → Nat → Int
  | 0 => dl
  | m + 1 => fun i k => mm n N (bb n N d m) i k + dl i k * d (n - (m + 1))
structure LevC (n:Nat) (N:Nat → Nat → Int) (d:Nat → Int):Prop where
  top:d n = 1
  tr:∀ m,m < n → su n (fun i => mm n N (bb n N d m) i i) = -((m + 1:Nat):Int) * d (n - (m + 1))
  wN:∀ i k,i < n → k < n → Wd (N i k) 2048
  wb:∀ m i k,m ≤ n → i < n → k < n → Wd (bb n N d m i k) 2048
  wp:∀ m i k l,m < n → i < n → k < n → l ≤ n → Wd (su l fun j => N i j * bb n N d m j k) 2048
  wt:∀ m i,m < n → i ≤ n → Wd (su i fun k => mm n N (bb n N d m) k k) 2048
  wd:∀ i,i ≤ n → Wd (d i) 2048
theorem LevC.ws {n:Nat} {N:Nat → Nat → Int} {d:Nat → Int} (h:LevC n N d) {j:Nat} (hj:j ≤ n) (i k:Nat):Wd (dl i k * d j) 2048:=by
  unfold dl
  split
  · rw [show ((1:Nat):Int) * d j = d j by omega]; exact h.wd j hj
  rw [show ((0:Nat):Int) * d j = 0 by omega]; exact wd_small (by omega) (by omega)
def dls (d:Nat → Int) (s m:Nat):List Int:=(List.range' s m).map d
theorem dls_cons (d:Nat → Int) (s m:Nat):dls d s (m + 1) = d s :: dls d (s + 1) m:=by simp [dls,List.range'_succ]
theorem dls_get {d:Nat → Int} {s m i:Nat} (h:i < m):(dls d s m)[i]? = some (d (s + i)):=by
  unfold dls; rw [List.getElem?_map,List.getElem?_range' h]; simp
theorem dls_at {d:Nat → Int} {s m i:Nat} (h:i < m):(dls d s m).getD i 0 = d (s + i):=by simp [List.getD,dls_get h]
theorem dls_len (d:Nat → Int) (s m:Nat):(dls d s m).length = m:=by simp [dls]
theorem dls_wd {n m K:Nat} {d:Nat → Int} (h:∀ i,i ≤ n → Wd (d i) K) (hm:m ≤ n + 1):∀ z ∈ dls d 0 m,Wd z K:=fun z hz => by
  obtain ⟨i,hi,rfl⟩:=List.mem_map.1 hz
  rw [List.mem_range'_1] at hi
  exact h i (by omega)
theorem dl_wd (i k:Nat):Wd (dl i k) 2048:=by unfold dl; split <;> exact wd_small (by omega) (by omega)
theorem back_one (a:Nat) (e:Iq):(List.replicate (a + 1) nilQ).set a (iqE e) = List.replicate a nilQ ++ iqs [e]:=by
  have h:=back_set (a:=a) (e:=e) (L:=[]); rwa [show iqs [] = [] from rfl,List.append_nil] at h
theorem wpchar {n:Nat} {N:Nat → Nat → Int} {d:Nat → Int} {w:World} {bd:Bool} {pd pt:Option Addr} {nd cd ct:Nat} (hd:Zr w bd pd nd cd 1 2) (hM1:TB w pt n (tbl n n N) 2048) (h0:n ≠ 0) (hn:n ≤ 1000) (hL:LevC n N d) :
  Calls Tryd.prog 29 #[.agg #[.bool bd,.slice pd nd cd,.slice pt n ct]] w (Ret (PQt (n + 1) (dls d 0 (n + 1))) w):=by
 have hS:=Sep.init w
 refine went Tryd.func29 rfl (n:=49) rfl rfl ?_
 refine wsr (wl rfl (obox [.bool bd,.slice pd nd cd,.slice pt n ct] hS rfl rfl (ev (v:=.agg #[.bool bd,.slice pd nd cd,.slice pt n ct]) rfl rfl) rfl ?_))
 clear hS; intro g1 w2 hS
 refine wavc ?_
 refine wn2 (wl rfl (oFA (g:=g1) (off:=0) 2 rfl rfl (ev rfl rfl) Tryd.runUnderlying72 rfl Tryd.sizeOf45 rfl ?_))
 refine wl rfl (oL1 (v:=.slice pt n ct) ⟨Tryd.isAgg45,Tryd.sizeOf45⟩ hS 0 rfl rfl (ev rfl rfl) rfl rfl ?_)
 refine wl rfl (olen rfl rfl rfl Tryd.runUnderlying45 (p:=pt) (k:=n) (m:=ct) (ev rfl rfl) ?_)
 refine wav (v:=.int .i64 (n:Int)) rfl rfl ?_
 refine wn2 (wmv (v:=.int .i64 (n:Int)) rfl rfl ?_)
 refine wbc (u:=.int .i64 (n:Int)) (v:=.int .i64 1) (z:=.int .i64 ((n + 1:Nat):Int)) rfl rfl (bAd (wI6 (by omega) (by omega))) ?_
 refine wl rfl (omakeL (zs:=[.bool false,.slice none 0 0,.bool false,.slice none 0 0]) (k:=n + 1) (m:=n + 1) hS rfl rfl Tryd.underlying69 infoRat rfl rfl (by decide) rfl (ev (v:=.int .i64 ((n + 1:Nat):Int)) rfl rfl) (ev (v:=.int .i64 ((n + 1:Nat):Int)) rfl rfl) (by omega) (by omega) (by omega) ?_)
 clear hS; intro g3 w4 hS
 refine wav (v:=.slice (some ⟨g3,0,none⟩) (n + 1) (n + 1)) rfl rfl ?_
 refine wn2 (wmv (v:=.slice (some ⟨g3,0,none⟩) (n + 1) (n + 1)) rfl rfl ?_)
 refine wmv (v:=.int .i64 (n:Int)) rfl rfl ?_
 rw [show List.replicate (n + 1) (⟨[.bool false,.slice none 0 0,.bool false,.slice none 0 0],[]⟩:El) = List.replicate (n + 1) nilQ from rfl] at hS
 obtain ⟨z1,hz1⟩:∃ z:Int,Hid (1 = z):=⟨_,rfl⟩
 have hk1:Wd z1 2:=by rw [← hz1.out]; exact Wd.i64 (by omega) (by omega)
 have hk2:Wd 1 2:=wd1
 refine wcl Tryd.call46 ((show Calls _ _ _ _ (Ret (Rrt z1 1) _) from by rw [← hz1.out]; exact wsof (by omega) (by omega))) (ar1 evc) hS ?_
 clear hS; rintro _ _ w5 ⟨p1,n1,c1,p2,n2,c2,rfl,rfl⟩ hS
 refine wl rfl (oIx (p:=(some ⟨g3,0,none⟩)) (g:=g3) (off:=0) (m:=n + 1) (k:=n) (j:=(0 + n * 4)) rfl rfl Tryd.runUnderlying69 Tryd.sizeOf91 (ev rfl rfl) (rfl) (ev rfl rfl) (by omega) rfl ?_)
 refine wl rfl (ostoreL (i:=n) (g:=g3) [.bool (ng z1),.slice p1 n1 c1,.bool (ng 1),.slice p2 n2 c2] [.rowm p1 n1 c1 (lim z1.natAbs),.rowm p2 n2 c2 (lim (1:Int).natAbs)] Tryd.sizeOf91 hS rfl rfl (ev (v:=.pointer (some ⟨g3,(0 + n * 4),none⟩)) rfl rfl) (ev (v:=.agg #[.bool (ng z1),.slice p1 n1 c1,.bool (ng 1),.slice p2 n2 c2]) rfl rfl) (rfl) rfl rfl rfl rfl (by omega) rfl ?_)
 clear hS; intro w6 hS
 refine wn2 (wmv (v:=.int .i64 (n:Int)) rfl rfl ?_)
 rw [show (⟨[.bool (ng z1),.slice p1 n1 c1,.bool (ng 1),.slice p2 n2 c2],[.rowm p1 n1 c1 (lim z1.natAbs),.rowm p2 n2 c2 (lim (1:Int).natAbs)]⟩:El) = iqE ⟨p1,n1,c1,p2,n2,c2,z1⟩ from rfl,back_one] at hS
 have hn0:List.replicate n nilQ = List.replicate (n - 0) nilQ:=rfl
 have hkDb:Wd 1 2:=wd1
 refine wcl Tryd.call47 (wtIdentity h0 (by omega)) (ar1 (ev rfl rfl)) hS ?_
 clear hS; rintro _ _ w7 ⟨pDb,nDb,cDb,pSb,cSb,rsb,rfl,rfl,hMb⟩ hS
 refine wl rfl (oAl [.bool false,.slice none 0 0,.slice none 0 0] hS rfl rfl Tryd.zeroValue72 rfl ?_)
 clear hS; intro g8 w9 hS
 refine wl rfl (oSt [.bool (ng 1),.slice pDb nDb cDb,.slice pSb n cSb] [.bool (ng 1),.slice pDb nDb cDb,.slice pSb n cSb] Tryd.sizeOf72 hS 0 rfl rfl (ev rfl rfl) (ev (v:=.agg #[.bool (ng 1),.slice pDb nDb cDb,.slice pSb n cSb]) rfl rfl) rfl rfl rfl rfl rfl rfl ?_)
 clear hS; intro w10 hS
 refine wn1 (wSq (wsr (wavc ?_)))
 refine wn1 (wBk ?_)
 refine wLp (σ := Nat) (fun m a9 w' => ∃ (fb:Nat → Value) (L:List Iq) (pDb:Option Addr) (nDb:Nat) (cDb:Nat) (pSb:Option Addr) (cSb:Nat) (rsb:List Res),a9 = act 49 (sets fb [(1,.pointer (some ⟨g1,0,none⟩)),(2,.slice none 0 0),(3,.int .i64 (n:Int)),(4,.slice (some ⟨g3,0,none⟩) (n + 1) (n + 1)),(5,.pointer (some ⟨g8,0,none⟩)),(6,.int .i64 ((((m + 1):Nat):Int)))]) ∧ Sep w [.blk g8 [.bool (ng 1),.slice pDb nDb cDb,.slice pSb n cSb] 72,.row pDb nDb cDb (lim (1:Int).natAbs),.pack rsb,.lst 91 4 (some ⟨g3,0,none⟩) (n + 1) (n + 1) (List.replicate (n - m) nilQ ++ iqs L),.blk g1 [.bool bd,.slice pd nd cd,.slice pt n ct] 72] w' ∧ (m ≤ n) ∧ (izs L = dls d (n - m) (m + 1)) ∧ (∀ w,(Res.pack rsb).holds w → TB w pSb n (tbl n n (bb n N d m)) 2048)) (fun m => n - m) (0) ⟨_,[⟨p1,n1,c1,p2,n2,c2,z1⟩],pDb,nDb,cDb,pSb,cSb,rsb,aSs ⟨rfl,rfl,rfl,rfl,rfl,rfl,trivial⟩,hS,Nat.zero_le _,by show [z1] = [d n]; rw [← hz1.out,hL.top],hMb⟩ ?_
 clear hS; rintro m _ w11 ⟨fb,L,pDb,nDb,cDb,pSb,cSb,rsb,rfl,hS,hm,hLd,hMb⟩
 refine wSq (wsr (wmv (v:=.int .i64 ((((m + 1):Nat):Int))) rfl rfl ?_))
 refine wmv (v:=.int .i64 (n:Int)) rfl rfl ?_
 by_cases hlm:m < n
 ·
  refine wbt (u:=.int .i64 ((((m + 1):Nat):Int))) (v:=.int .i64 (n:Int)) rfl rfl rfl rfl (bin_leq (decide_eq_true (by omega))) ?_
  refine wn1 ?_
  refine wT (ev rfl rfl) ?_
  refine wk2 (wl rfl (oLd (vs:=[.bool bd,.slice pd nd cd,.slice pt n ct]) ⟨Tryd.isAgg72,Tryd.sizeOf72⟩ hS 4 rfl rfl (ev rfl rfl) rfl rfl rfl ?_))
  refine wl rfl (oLd (vs:=[.bool (ng 1),.slice pDb nDb cDb,.slice pSb n cSb]) ⟨Tryd.isAgg72,Tryd.sizeOf72⟩ hS 0 rfl rfl (ev rfl rfl) rfl rfl rfl ?_)
  have hkDm:Wd 1 2:=wd1
  refine wcl Tryd.call48 ((wtMul (F:=N) (E:=(bb n N d m)) (hd.at hS) (hM1.atQ hS) ((hS.sl 1 rfl).zr hkDb) (hMb _ (hS.get 2 rfl)) h0 (by omega) (hL.wN) (fun i k => hL.wb m i k (by omega)) (fun i k l hi hk hl => hL.wp m i k l (by omega) hi hk hl))) (ar2 (ev rfl rfl) (ev rfl rfl)) hS ?_
  clear hS; rintro _ _ w12 ⟨pDm,nDm,cDm,pSm,cSm,rsm,rfl,rfl,hMm⟩ hS
  refine wl rfl (oAl [.bool false,.slice none 0 0,.slice none 0 0] hS rfl rfl Tryd.zeroValue72 rfl ?_)
  clear hS; intro g13 w14 hS
  refine wl rfl (oSt [.bool (ng 1),.slice pDm nDm cDm,.slice pSm n cSm] [.bool (ng 1),.slice pDm nDm cDm,.slice pSm n cSm] Tryd.sizeOf72 hS 0 rfl rfl (ev rfl rfl) (ev (v:=.agg #[.bool (ng 1),.slice pDm nDm cDm,.slice pSm n cSm]) rfl rfl) rfl rfl rfl rfl rfl rfl ?_)
  clear hS; intro w15 hS
  refine wn2 (wl rfl (oLd (vs:=[.bool (ng 1),.slice pDm nDm cDm,.slice pSm n cSm]) ⟨Tryd.isAgg72,Tryd.sizeOf72⟩ hS 0 rfl rfl (ev rfl rfl) rfl rfl rfl ?_))
  obtain ⟨z3,hz3⟩:∃ z:Int,Hid ((su n fun k => (mm n N (bb n N d m)) k k) = z):=⟨_,rfl⟩
  have hk3:Wd z3 2048:=by rw [← hz3.out]; exact hL.wt m n (by omega) (Nat.le_refl _)
  have hk4:Wd 1 2:=wd1
  refine wcl Tryd.call50 ((show Calls _ _ _ _ (Ret (Rrt z3 1) _) from by rw [← hz3.out]; exact wtTrace (F:=(mm n N (bb n N d m))) ((hS.sl 1 rfl).zr hkDm) (hMm _ (hS.get 2 rfl)) h0 (by omega) (fun i k hi hk => hL.wp m i k n (by omega) hi hk (Nat.le_refl _)) (fun i hi => hL.wt m i (by omega) hi))) (ar1 (ev rfl rfl)) hS ?_
  clear hS; rintro _ _ w16 ⟨p3,n3,c3,p4,n4,c4,rfl,rfl⟩ hS
  refine wmv (v:=.int .i64 ((((m + 1):Nat):Int))) rfl rfl ?_
  refine wl rfl (oneg (k:=.i64) (c:=(-((m + 1:Nat):Int))) rfl rfl (ev rfl rfl) (wI6 (by omega) (by omega)) ?_)
  obtain ⟨z5,hz5⟩:∃ z:Int,Hid ((-((m + 1:Nat):Int)) = z):=⟨_,rfl⟩
  have hk5:Wd z5 2:=by rw [← hz5.out]; exact Wd.i64 (by omega) (by omega)
  have hk6:Wd 1 2:=wd1
  refine wcl Tryd.call46 ((show Calls _ _ _ _ (Ret (Rrt z5 1) _) from by rw [← hz5.out]; exact wsof (by omega) (by omega))) (ar1 (ev rfl rfl)) hS ?_
  clear hS; rintro _ _ w17 ⟨p5,n5,c5,p6,n6,c6,rfl,rfl⟩ hS
  obtain ⟨z7,hz7⟩:∃ z:Int,Hid (d (n - (m + 1)) = z):=⟨_,rfl⟩
  have hk7:Wd z7 2048:=by rw [← hz7.out]; exact hL.wd _ (by omega)
  have hk8:Wd 1 2:=wd1
  refine wcl Tryd.call49 ((show Calls _ _ _ _ (Ret (Rrt z7 1) _) from by rw [← hz7.out]; exact wiquo (((hS.slm 2 rfl).zr hk3).mono (by omega)) (((hS.slm 3 rfl).zr hk4).mono (by omega)) (((hS.slm 0 rfl).zr hk5).mono (by omega)) (((hS.slm 1 rfl).zr hk6).mono (by omega)) (by rw [← hz3.out, ← hz5.out]; exact hL.tr m (by omega)) (by rw [← hz5.out]; omega))) (ar2 (ev rfl rfl) (ev rfl rfl)) hS ?_
  clear hS; rintro _ _ w18 ⟨p7,n7,c7,p8,n8,c8,rfl,rfl⟩ hS
  refine wl rfl (oAl [.bool false,.slice none 0 0,.bool false,.slice none 0 0] hS rfl rfl Tryd.zeroValue91 rfl ?_)
  clear hS; intro g19 w20 hS
  refine wl rfl (oSt [.bool (ng z7),.slice p7 n7 c7,.bool (ng 1),.slice p8 n8 c8] [.bool (ng z7),.slice p7 n7 c7,.bool (ng 1),.slice p8 n8 c8] Tryd.sizeOf91 hS 0 rfl rfl (ev rfl rfl) (ev (v:=.agg #[.bool (ng z7),.slice p7 n7 c7,.bool (ng 1),.slice p8 n8 c8]) rfl rfl) rfl rfl rfl rfl rfl rfl ?_)
  clear hS; intro w21 hS
  refine wn2 (wmv (v:=.slice (some ⟨g3,0,none⟩) (n + 1) (n + 1)) rfl rfl ?_)
  refine wmv (v:=.int .i64 (n:Int)) rfl rfl ?_
  refine wmv (v:=.int .i64 ((((m + 1):Nat):Int))) rfl rfl ?_
  refine wbt (u:=.int .i64 (n:Int)) (v:=.int .i64 ((((m + 1):Nat):Int))) (z:=.int .i64 (((n - (m + 1):Nat):Int))) rfl rfl rfl rfl (bin_sub (by rw [show (n:Int) - (((m + 1):Nat):Int) = ((n - (m + 1):Nat):Int) by omega]; exact wI6 (by omega) (by omega))) ?_
  refine wl rfl (oLd (vs:=[.bool (ng z7),.slice p7 n7 c7,.bool (ng 1),.slice p8 n8 c8]) aggR hS 0 rfl rfl (ev rfl rfl) rfl rfl rfl ?_)
  refine wl rfl (oIx (p:=(some ⟨g3,0,none⟩)) (g:=g3) (off:=0) (m:=n + 1) (k:=(n - (m + 1))) (j:=(0 + ((n - (m + 1))) * 4)) rfl rfl Tryd.runUnderlying69 Tryd.sizeOf91 (ev rfl rfl) (rfl) (ev rfl rfl) (by omega) rfl ?_)
  obtain hS:=(show Sep w [.rowm p7 n7 c7 (lim z7.natAbs),.rowm p8 n8 c8 (lim (1:Int).natAbs),.lst 91 4 (some ⟨g3,0,none⟩) (n + 1) (n + 1) (List.replicate (n - m) nilQ ++ iqs L),.blk g19 [.bool (ng z7),.slice p7 n7 c7,.bool (ng 1),.slice p8 n8 c8] 91,.rowm p5 n5 c5 (lim z5.natAbs),.rowm p6 n6 c6 (lim (1:Int).natAbs),.rowm p3 n3 c3 (lim z3.natAbs),.rowm p4 n4 c4 (lim (1:Int).natAbs),.blk g13 [.bool (ng 1),.slice pDm nDm cDm,.slice pSm n cSm] 72,.row pDm nDm cDm (lim (1:Int).natAbs),.pack rsm,.blk g8 [.bool (ng 1),.slice pDb nDb cDb,.slice pSb n cSb] 72,.row pDb nDb cDb (lim (1:Int).natAbs),.pack rsb,.blk g1 [.bool bd,.slice pd nd cd,.slice pt n ct] 72] w21 from hS.pick [1,2,13,0,3,4,5,6,7,8,9,10,11,12,14] (by decide) rfl)
  refine wl rfl (ostoreL (i:=(n - (m + 1))) (g:=g3) [.bool (ng z7),.slice p7 n7 c7,.bool (ng 1),.slice p8 n8 c8] [.rowm p7 n7 c7 (lim z7.natAbs),.rowm p8 n8 c8 (lim (1:Int).natAbs)] Tryd.sizeOf91 hS rfl rfl (ev (v:=.pointer (some ⟨g3,(0 + ((n - (m + 1))) * 4),none⟩)) rfl rfl) (ev (v:=.agg #[.bool (ng z7),.slice p7 n7 c7,.bool (ng 1),.slice p8 n8 c8]) rfl rfl) (rfl) rfl rfl rfl rfl (by omega) rfl ?_)
  clear hS; intro w22 hS
  refine wn1 ?_
  rw [show List.replicate (n - m) nilQ = List.replicate (n - (m + 1) + 1) nilQ by rw [show n - (m + 1) + 1 = n - m by omega],show (⟨[.bool (ng z7),.slice p7 n7 c7,.bool (ng 1),.slice p8 n8 c8],[.rowm p7 n7 c7 (lim z7.natAbs),.rowm p8 n8 c8 (lim (1:Int).natAbs)]⟩:El) = iqE ⟨p7,n7,c7,p8,n8,c8,z7⟩ from rfl,back_set] at hS
  have hkDi:Wd 1 2:=wd1
  have hkDs:Wd 1 2:=wd1
  have hkDc:Wd 1 2:=wd1
  refine wSg 6 [41,42,43,44,45,46] [[],[],[1],[],[2,3,1],[0,4,1,2,3]] [] [] [] (fun i9 => ([iSv (.agg #[.bool (ng 1),.slice pDm nDm cDm,.slice pSm n cSm]),iSv (.int .i64 (n:Int)),fun _ => MTt n ((tbl n n dl)) 2048,iSv (.agg #[.bool (ng z7),.slice p7 n7 c7,.bool (ng 1),.slice p8 n8 c8]),fun _ => MTt n ((tbl n n (fun i k => dl i k * z7))) 2048,fun _ => MTt n ((tbl n n (fun i k => (mm n N (bb n N d m)) i k + (fun i k => dl i k * z7) i k))) 2048]:List (List Value → Tell)).getD i9 (fun _ _ _ => False)) hNi (fun d _ _ _ _ h => (by cases d <;> exact h)) (by kernel_rfl) (by kernel_rfl) (by kernel_rfl) hS ?_ ?_
  ·
   refine stH rfl (fun ho hS=>?_) ?_
   ·exact inNo rfl (oLd (vs:=[.bool (ng 1),.slice pDm nDm cDm,.slice pSm n cSm]) ⟨Tryd.isAgg72,Tryd.sizeOf72⟩ hS 6 rfl rfl (ev rfl (ho 7 rfl)) rfl rfl rfl (nSm rfl isI))
   refine stM rfl rfl rfl rfl rfl (fun _=>isI) ?_
   refine stT rfl (fun hT hS=>?_) ?_
   ·obtain ⟨hv1,hr1⟩:=hT 1 42 rfl rfl
    obtain hS:=hS.flat1 hr1
    exact .inl ⟨wNo rfl,oCl rfl rfl Tryd.call47 rfl (wtIdentity h0 (by omega)) (ar1 (ev rfl hv1)) cNw⟩
   refine stH rfl (fun ho hS=>?_) ?_
   ·exact inNo rfl (oLd (vs:=[.bool (ng z7),.slice p7 n7 c7,.bool (ng 1),.slice p8 n8 c8]) aggR hS 1 rfl rfl (ev rfl (ho 8 rfl)) rfl rfl rfl (nSm rfl isI))
   refine stT rfl (fun hT hS=>?_) ?_
   ·obtain ⟨pDi,nDi,cDi,pSi,cSi,rsi,hv2,hr2,hMi⟩:=(hT 2 43 rfl rfl:(MTt n ((tbl n n dl)) 2048) _ _)
    obtain ⟨hv3,hr3⟩:=hT 3 44 rfl rfl
    obtain hS:=hS.flat2 hr2 hr3
    exact .inl ⟨wNo rfl,oCl rfl rfl Tryd.call52 rfl ((wtScale (F:=dl) ((hS.sl 13 rfl).zr hkDi) (hMi _ (hS.get 14 rfl)) (hS.lqz 0 rfl (L:=⟨p7,n7,c7,p8,n8,c8,z7⟩ :: L) (j:=0) (e:=⟨p7,n7,c7,p8,n8,c8,z7⟩) rfl hk7) (hS.lq1 0 rfl (L:=⟨p7,n7,c7,p8,n8,c8,z7⟩ :: L) (j:=0) (e:=⟨p7,n7,c7,p8,n8,c8,z7⟩) rfl) h0 (by omega) (fun i k _ _ => dl_wd i k) (fun i k _ _ => by rw [← hz7.out]; exact hL.ws (by omega) i k))) (ar2 (ev rfl hv2) (ev rfl hv3)) cNw⟩
   refine stT rfl (fun hT hS=>?_) ?_
   ·obtain ⟨hv0,hr0⟩:=hT 0 41 rfl rfl
    obtain ⟨pDs,nDs,cDs,pSs,cSs,rss,hv4,hr4,hMs⟩:=(hT 4 45 rfl rfl:(MTt n ((tbl n n (fun i k => dl i k * z7))) 2048) _ _)
    obtain hS:=hS.flat2 hr0 hr4
    exact .inl ⟨wNo rfl,oCl rfl rfl Tryd.call51 rfl ((wtAdd (F:=(mm n N (bb n N d m))) (E:=(fun i k => dl i k * z7)) ((hS.sl 7 rfl).zr hkDm) (hMm _ (hS.get 8 rfl)) ((hS.sl 13 rfl).zr hkDs) (hMs _ (hS.get 14 rfl)) h0 (by omega) (fun i k hi hk => hL.wp m i k n (by omega) hi hk (Nat.le_refl _)) (fun i k _ _ => by rw [← hz7.out]; exact hL.ws (by omega) i k) (fun i k hi hk => by rw [← hz7.out]; exact hL.wb (m + 1) i k (by omega) hi hk))) (ar2 (ev rfl hv0) (ev rfl hv4)) cNw⟩
   exact sNi
  intro vs ρ w23 f' hf hT hS
  obtain ⟨hv0,hr0⟩:=hT 0 (by decide)
  obtain ⟨hv1,hr1⟩:=hT 1 (by decide)
  obtain ⟨pDi,nDi,cDi,pSi,cSi,rsi,hv2,hr2,hMi⟩:=(hT 2 (by decide):(MTt n ((tbl n n dl)) 2048) _ _)
  obtain ⟨hv3,hr3⟩:=hT 3 (by decide)
  obtain ⟨pDs,nDs,cDs,pSs,cSs,rss,hv4,hr4,hMs⟩:=(hT 4 (by decide):(MTt n ((tbl n n (fun i k => dl i k * z7))) 2048) _ _)
  obtain ⟨pDc,nDc,cDc,pSc,cSc,rsc,hv5,hr5,hMc⟩:=(hT 5 (by decide):(MTt n ((tbl n n (fun i k => (mm n N (bb n N d m)) i k + (fun i k => dl i k * z7) i k))) 2048) _ _)
  simp only [pool,if_true,hr0,hr1,hr2,hr3,hr4,hr5,List.nil_append,List.cons_append,List.append_nil] at hS
  simp only [layf,hv0,hv1,hv2,hv3,hv4,hv5] at hf
  subst hf; clear hT hv0 hv1 hv2 hv3 hv4 hv5 hr0 hr1 hr2 hr3 hr4 hr5
  refine wLt 6 rfl (by kernel_rfl) (oSt [.bool (ng 1),.slice pDc nDc cDc,.slice pSc n cSc] [.bool (ng 1),.slice pDc nDc cDc,.slice pSc n cSc] Tryd.sizeOf72 hS 15 rfl rfl (ev rfl rfl) (ev (v:=.agg #[.bool (ng 1),.slice pDc nDc cDc,.slice pSc n cSc]) rfl rfl) rfl rfl rfl rfl rfl rfl ?_)
  clear hS; intro w24 hS
  refine ⟨hNi,?_⟩
  refine wdone rfl ?_
  refine blkN (tNo (wreg (wmv (v:=.int .i64 ((((m + 1):Nat):Int))) rfl rfl ?_)))
  refine wbc (u:=.int .i64 ((((m + 1):Nat):Int))) (v:=.int .i64 1) (z:=.int .i64 ((m + 1 + 1:Nat):Int)) rfl rfl (bAd (wI6 (by omega) (by omega))) ?_
  refine wav (v:=.int .i64 ((m + 1 + 1:Nat):Int)) rfl rfl ?_
  refine wn1 ?_
  exact ⟨(m + 1),⟨_,_,_,_,_,_,_,_,aSs ⟨rfl,rfl,rfl,rfl,rfl,rfl,trivial⟩,hS.pick [15,0,1,6,18] (by decide) rfl,by omega,by show z7 :: izs L = _; rw [hLd, ← hz7.out,dls_cons d (n - (m + 1)) (m + 1),show n - (m + 1) + 1 = n - m by omega],by rw [← hz7.out] at hMc; exact hMc⟩,by omega⟩
 refine wbt (u:=.int .i64 ((((m + 1):Nat):Int))) (v:=.int .i64 (n:Int)) rfl rfl rfl rfl (bin_leq (decide_eq_false (by omega))) ?_
 refine wn1 ?_
 refine wF (ev rfl rfl) ?_
 refine wEx ?_
 refine tEx ?_
 refine tEx ?_
 refine blkE ?_
 refine tNo (wsr (wmv (v:=.slice (some ⟨g3,0,none⟩) (n + 1) (n + 1)) rfl rfl ?_))
 have hmn:m = n:=by omega
 rw [hmn,Nat.sub_self] at hLd
 have hLl:L.length = n + 1:=by rw [← izs_len,hLd,dls_len]
 rw [hmn,Nat.sub_self,List.replicate_zero,List.nil_append] at hS
 refine wcl Tryd.call53 ((wpnorm (zs:=(dls d 0 (n + 1))) (by rw [← hLd, ← hLl]; exact ir_rs (L:=L) (c:=n + 1) (t:=91) (by rw [hLl]; exact hS.get 3 rfl) (by rw [hLd]; exact dls_wd hL.wd (Nat.le_refl _)) (by decide) (by omega)) (by omega) (by omega) (by rw [Nat.add_sub_cancel,dls_at (by omega),Nat.zero_add,hL.top]; decide))) (ar1 (ev rfl rfl)) hS ?_
 clear hS; rintro _ _ w12 ⟨pP,cP,LP,hLP,rfl,rfl⟩ hS
 refine wav (v:=.slice pP ((n + 1)) cP) rfl rfl ?_
 refine wn1 ?_
 refine wLv ?_
 refine wr1 Tryd.results29 (tlT (v:=.slice pP ((n + 1)) cP) rfl rfl) ?_
 exact ⟨_,_,rfl,⟨_,_,_,hLP,rfl,rfl⟩,hS.newR 0 rfl rfl⟩
open Go Lib
theorem su_abs {f:Nat → Int} {C:Nat}:∀ n,(∀ k,k < n → (f k).natAbs ≤ C) → (su n f).natAbs ≤ n * C
 | 0,_ => by simp [su]
 | n + 1,h => by
  rw [su,Nat.add_mul,Nat.one_mul]
  have h0:=Int.natAbs_add_le (su n f) (f n)
  have h1:=su_abs n fun k hk => h k (by omega)
  have h2:=h n (by omega)
  omega
theorem bb_lev {n:Nat} {N:Nat → Nat → Int} {d:Nat → Int} {b:Nat → Nat → Nat → Int} (h:Lev n N d b):∀ m r c,m < n → r < n → c < n → bb n N d m r c = b m r c
 | 0,r,c,_,hr,hc => (h.b0 r c hr hc).symm
 | m + 1,r,c,hm,hr,hc => by
  rw [h.bs m r c hm hr hc]
  show mm n N (bb n N d m) r c + dl r c * d (n - (m + 1)) = _
  rw [Int.mul_comm (dl r c)]
  congr 1
  exact su_congr fun j hj => by rw [bb_lev h m j c (by omega) hj hc]
theorem bb_tr {n:Nat} {N:Nat → Nat → Int} {d:Nat → Int} {b:Nat → Nat → Nat → Int} (h:Lev n N d b) (m:Nat) (hm:m < n):su n (fun i => mm n N (bb n N d m) i i) = -((m + 1:Nat):Int) * d (n - (m + 1)):=by
  rw [← h.tr m hm]
  exact su_congr fun i hi => su_congr fun j hj => by rw [bb_lev h m j i hm hj hi]
section
variable {n X P:Nat} {N:Nat → Nat → Int} {d:Nat → Int}
theorem mm_abs {E:Nat → Nat → Int} (hN:∀ i k,i < n → k < n → (N i k).natAbs ≤ X) (hE:∀ i k,i < n → k < n → (E i k).natAbs ≤ P) {i k l:Nat} (hi:i < n) (hk:k < n) (hl:l ≤ n):(su l fun j => N i j * E j k).natAbs ≤ n * (X * P):=by
 have h:=su_abs (f:=fun j => N i j * E j k) (C:=X * P) l fun j hj => by
  rw [Int.natAbs_mul]; exact Nat.mul_le_mul (hN i j hi (by omega)) (hE j k (by omega) hk)
 exact Nat.le_trans h (Nat.mul_le_mul_right _ hl)
theorem tr_abs {E:Nat → Nat → Int} (hN:∀ i k,i < n → k < n → (N i k).natAbs ≤ X) (hE:∀ i k,i < n → k < n → (E i k).natAbs ≤ P) {l:Nat} (hl:l ≤ n):(su l fun i => mm n N E i i).natAbs ≤ n * (n * (X * P)):=by
  have h:=su_abs (f:=fun i => mm n N E i i) (C:=n * (X * P)) l fun i hi => mm_abs hN hE (by omega) (by omega) (Nat.le_refl _)
  exact Nat.le_trans h (Nat.mul_le_mul_right _ hl)
theorem big1 (hn:n ≤ 1000) (hX:2000000 ≤ X):n * (X * P) + n * (n * (X * P)) ≤ P * (X * X):=by
  have h1:n * n ≤ 1000 * 1000:=Nat.mul_le_mul hn hn
  rw [show n * (X * P) + n * (n * (X * P)) = (n + n * n) * (X * P) by grind,show P * (X * X) = X * (X * P) by grind]
  exact Nat.mul_le_mul_right _ (by omega)
theorem dl_abs (i k:Nat) (z:Int):(dl i k * z).natAbs ≤ z.natAbs:=by
  unfold dl
  split
  · rw [show ((1:Nat):Int) * z = z by omega]; exact Nat.le_refl _
  rw [show ((0:Nat):Int) * z = 0 by omega]; simp
theorem d_abs (hN:∀ i k,i < n → k < n → (N i k).natAbs ≤ X) {m:Nat} (hE:∀ i k,i < n → k < n → (bb n N d m i k).natAbs ≤ P) (ht:su n (fun i => mm n N (bb n N d m) i i) = -((m + 1:Nat):Int) * d (n - (m + 1))):(d (n - (m + 1))).natAbs ≤ n * (n * (X * P)):=by
  have h1:=tr_abs hN hE (Nat.le_refl n)
  rw [ht,Int.natAbs_mul,Int.natAbs_neg,Int.natAbs_natCast] at h1
  exact Nat.le_trans (Nat.le_mul_of_pos_left _ (by omega)) h1
theorem bb_abs (hn:n ≤ 1000) (hX:2000000 ≤ X) (hN:∀ i k,i < n → k < n → (N i k).natAbs ≤ X) (ht:∀ m,m < n → su n (fun i => mm n N (bb n N d m) i i) = -((m + 1:Nat):Int) * d (n - (m + 1))):∀ m,m ≤ n → ∀ i k,i < n → k < n → (bb n N d m i k).natAbs ≤ (X * X) ^ m
 | 0,_,i,k,_,_ => by
  show (dl i k).natAbs ≤ _
  unfold dl; split <;> simp
 | m + 1,hm,i,k,hi,hk => by
  have ih:=bb_abs hn hX hN ht m (by omega)
  rw [Nat.pow_succ]
  refine Nat.le_trans ?_ (big1 hn hX)
  show (mm n N (bb n N d m) i k + dl i k * d (n - (m + 1))).natAbs ≤ _
  refine Nat.le_trans (Int.natAbs_add_le _ _) (Nat.add_le_add ?_ ?_)
  ·exact mm_abs hN ih hi hk (Nat.le_refl _)
  exact Nat.le_trans (dl_abs _ _ _) (d_abs hN ih (ht m (by omega)))
end
theorem wd_powL {z:Int} {m X:Nat} (hX:4294967296 = X) (hm:m ≤ 1000) (h:z.natAbs ≤ (X * X) ^ m):Wd z 2048:=by
 have h1:(X * X) ^ m = X ^ (2 * m):=by rw [Nat.pow_mul,Nat.pow_succ,Nat.pow_one]
 have h2:∀ K,2 * m < K → ll z.natAbs ≤ K:=fun K hK => ll_le (by
  rw [hX]; rw [h1] at h
  exact Nat.lt_of_le_of_lt h (Nat.pow_lt_pow_right (by omega) hK))
 exact h2 2048 (by omega)
theorem lev_C {n:Nat} {N:Nat → Nat → Int} {d:Nat → Int} {b:Nat → Nat → Nat → Int} (hn:n ≤ 1000) (h:Lev n N d b) (hN:∀ i k,i < n → k < n → (N i k).natAbs ≤ 4294967296):LevC n N d:=by
 have ht:=bb_tr h
 generalize hX:4294967296 = X at hN
 have hX2:2000000 ≤ X:=by omega
 have hb:=bb_abs hn hX2 hN ht
 have hw:∀ {z:Int} {m:Nat},m ≤ n → z.natAbs ≤ (X * X) ^ m → Wd z 2048:=fun hm hz => wd_powL hX (by omega) hz
 have hs:∀ m,n * (n * (X * (X * X) ^ m)) ≤ (X * X) ^ (m + 1):=fun m => by
  rw [Nat.pow_succ]; exact Nat.le_trans (Nat.le_add_left _ _) (big1 hn hX2)
 have hs1:∀ m,n * (X * (X * X) ^ m) ≤ (X * X) ^ (m + 1):=fun m => by
  rw [Nat.pow_succ]; exact Nat.le_trans (Nat.le_add_right _ _) (big1 hn hX2)
 refine ⟨h.top,ht,fun i k hi hk => (Wd.i64 (by have:=hN i k hi hk; omega) (by have:=hN i k hi hk; omega)).mono (by decide),fun m i k hm hi hk => hw hm (hb m hm i k hi hk),fun m i k l hm hi hk hl => hw (m:=m + 1) (by omega) (Nat.le_trans (mm_abs hN (hb m (by omega)) hi hk hl) (hs1 m)),fun m i hm hi => hw (m:=m + 1) (by omega) (Nat.le_trans (tr_abs hN (hb m (by omega)) hi) (hs m)),fun i hi => ?_⟩
 by_cases e:i = n
 ·rw [e,h.top]; exact wd_small (by omega) (by omega)
 obtain ⟨m,rfl⟩:∃ m,i = n - (m + 1):=⟨n - 1 - i,by omega⟩
 by_cases e2:m < n
 ·exact hw (m:=m + 1) (by omega) (Nat.le_trans (d_abs hN (hb m (by omega)) (ht m e2)) (hs m))
 rw [show n - (m + 1) = n - (n - 1 + 1) by omega]
 exact hw (m:=n - 1 + 1) (by omega) (Nat.le_trans (d_abs hN (hb (n - 1) (by omega)) (ht (n - 1) (by omega))) (hs (n - 1)))
end Go.Proofs.YtcfcdbeemhjhgaaDoor
