/-
  Contracts and lemmas, joined in one text.
-/
import Derived.Test.YtnlnibngpeempaaGreatDoorRF
import Derived.Test.YtnlnibngpeempaaGreatDoorWC
import Derived.Test.YtnlnibngpeempaaGreatDoorBA
import Derived.WalkKit
import Derived.Test.YtnlnibngpeempaaGreatDoorBG
import Derived.Test.YtnlnibngpeempaaGreatDoorWA
set_option linter.unusedVariables false
set_option linter.unusedSimpArgs false
/-
  What the laws of rat share: same,told,some,lives.
-/
set_option maxRecDepth 100000
set_option maxHeartbeats 16000000
namespace Go.Proofs.YtnlnibngpeempaaGreatDoor
open Go.RowKit
theorem rs_zero {x y s:Int} (h:Hid (x.sign * y.sign = s)) (hx:x = 0):(s == 0) = true:=by
  rw [← h.out,hx]; simp
theorem rs_ne {x y s:Int} (h:Hid (x.sign * y.sign = s)) (hx:x ≠ 0) (hy:y ≠ 0):(s == 0) = false:=by
  rw [← h.out, ← Int.sign_mul]
  have:=ne_mul hx hy
  rcases Int.lt_or_gt_of_ne this with h | h
  · rw [Int.sign_eq_neg_one_of_neg h]; rfl
  rw [Int.sign_eq_one_of_pos h]; rfl
open Go.RowKit
def Rct (b1:Bool) (n:Nat) (xs:List Nat) (b2:Bool) (m:Nat) (ys:List Nat):Tell:=fun v r => ∃ p c q d,v = .agg #[.bool b1,.slice p n c,.bool b2,.slice q m d] ∧ r = [.rowm p n c xs,.rowm q m d ys]
theorem wscopy {bA bB:Bool} {qA qB:Option Addr} {nA kA nB kB:Nat} {la lb:List Nat} {w:World} (hsA:Sl w qA nA kA la) (hsB:Sl w qB nB kB lb) (hnA:nA ≤ 1073741824) (hnB:nB ≤ 1073741824) :
  Calls Tryz.prog 94 #[.agg #[.bool bA,.slice qA nA kA,.bool bB,.slice qB nB kB]] w (Ret (Rct bA nA la bB nB lb) w):=by
 have hS:=Sep.init w
 refine went Tryz.func94 rfl (n:=10) rfl rfl ?_
 refine wsr (wl rfl (obox [.bool bA,.slice qA nA kA,.bool bB,.slice qB nB kB] hS rfl rfl (ev rfl rfl) rfl ?_))
 clear hS; intro g1 w2 hS
 refine wl rfl (oAl [.bool false,.slice none 0 0,.bool false,.slice none 0 0] hS rfl rfl Tryz.zeroValue43 rfl ?_)
 clear hS; intro g3 w4 hS
 refine wn1 (wSq ?_)
 refine wSg 7 [3,4,5,6,7,8,9] [[],[0],[1,0],[],[3],[4,0,1,2,3],[2,5,0,1,3,4]] [[],[],[],[],[],[],[2,5]] [] [] (fun i9 => ([iSv (.pointer (some ⟨g1,0,none⟩)),iSv (.agg #[.bool bA,.slice qA nA kA]),fun _ => Cpm bA nA la,iSv (.pointer (some ⟨g1,2,none⟩)),iSv (.agg #[.bool bB,.slice qB nB kB]),fun _ => Cpm bB nB lb,fun us => Is (.agg #[.bool bA,(vat (us.getD 0 undef) [1]),.bool bB,(vat (us.getD 1 undef) [1])])]:List (List Value → Tell)).getD i9 (fun _ _ _ => False)) hNi (fun d _ _ _ _ h => (by cases d <;> exact h)) (by kernel_rfl) (by kernel_rfl) (by kernel_rfl) hS ?_ ?_
 ·
  refine stH rfl (fun ho _=>?_) ?_
  ·exact inNo rfl (oFA (g:=g1) (off:=0) 0 rfl rfl (ev rfl (ho 1 rfl)) Tryz.runUnderlying43 rfl Tryz.sizeOf28 rfl (nSm rfl isI))
  refine stT rfl (fun hT hS=>?_) ?_
  ·obtain ⟨hv0,hr0⟩:=hT 0 3 rfl rfl
   obtain hS:=hS.flat1 hr0
   exact inNo rfl (oLd aggZ hS 1 rfl rfl (ev rfl hv0) rfl rfl rfl (nSm rfl isI))
  refine stT rfl (fun hT hS=>?_) ?_
  ·obtain ⟨hv1,hr1⟩:=hT 1 4 rfl rfl
   obtain hS:=hS.flat1 hr1
   exact .inl ⟨wNo rfl,oCl rfl rfl Tryz.call55 rfl ((wqcopy (hsA.below hS.below (Nat.le_refl _)) (by omega)).mono Cpt.m) (ar1 (ev rfl hv1)) cNw⟩
  refine stH rfl (fun ho _=>?_) ?_
  ·exact inNo rfl (oFA (g:=g1) (off:=0) 2 rfl rfl (ev rfl (ho 1 rfl)) Tryz.runUnderlying43 rfl Tryz.sizeOf28 rfl (nSm rfl isI))
  refine stT rfl (fun hT hS=>?_) ?_
  ·obtain ⟨hv3,hr3⟩:=hT 3 6 rfl rfl
   obtain hS:=hS.flat1 hr3
   exact inNo rfl (oLd aggZ hS 1 rfl rfl (ev rfl hv3) rfl rfl rfl (nSm rfl isI))
  refine stT rfl (fun hT hS=>?_) ?_
  ·obtain ⟨hv4,hr4⟩:=hT 4 7 rfl rfl
   obtain hS:=hS.flat1 hr4
   exact .inl ⟨wNo rfl,oCl rfl rfl Tryz.call55 rfl ((wqcopy (hsB.below hS.below (Nat.le_refl _)) (by omega)).mono Cpt.m) (ar1 (ev rfl hv4)) cNw⟩
  refine stC rfl (fun _ f' _ _ _ _ hT hS _=>?_) ?_
  ·obtain ⟨p1,c1,hv2,hr2⟩:=(hT 2 5 rfl rfl:(Cpm bA nA la) _ _)
   obtain ⟨p2,c2,hv5,hr5⟩:=(hT 5 8 rfl rfl:(Cpm bB nB lb) _ _)
   obtain hS:=hS.flat2 hr2 hr5
   have hQ:(.agg #[.bool bA,.slice p1 nA c1,.bool bB,.slice p2 nB c2]:Value) = (fun (us:List Value) => (.agg #[.bool bA,(vat (us.getD 0 undef) [1]),.bool bB,(vat (us.getD 1 undef) [1])]:Value)) [f' 5,f' 8]:=by show _ = (.agg #[.bool bA,(vat (f' 5) [1]),.bool bB,(vat (f' 8) [1])]:Value); rw [hv2,hv5]; rfl
   exact .inl ⟨wNo rfl,obuild (ps:=#[(0,.agg #[.bool bA,.slice p1 nA c1]),(1,.agg #[.bool bB,.slice p2 nB c2])]) (v:=.agg #[.bool bA,.slice p1 nA c1,.bool bB,.slice p2 nB c2]) rfl rfl (parts2 (ev rfl hv2) (ev rfl hv5)) (fun w => by simp [go_sem,Instr.build,Instr.fill]) ⟨_,_,rfl,⟨hQ,rfl⟩,New.same _⟩⟩
  exact sNi
 intro vs ρ w5 f' hf hT hS
 obtain ⟨hv0,hr0⟩:=hT 0 (by decide)
 obtain ⟨hv1,hr1⟩:=hT 1 (by decide)
 obtain ⟨p1,c1,hv2,hr2⟩:=(hT 2 (by decide):(Cpm bA nA la) _ _)
 obtain ⟨hv3,hr3⟩:=hT 3 (by decide)
 obtain ⟨hv4,hr4⟩:=hT 4 (by decide)
 obtain ⟨p2,c2,hv5,hr5⟩:=(hT 5 (by decide):(Cpm bB nB lb) _ _)
 obtain ⟨hv6,hr6⟩:=(hT 6 (by decide):(fun (us:List Value) => Is (.agg #[.bool bA,(vat (us.getD 0 undef) [1]),.bool bB,(vat (us.getD 1 undef) [1])])) [vs 2,vs 5] _ _)
 replace hv6:vs 6 = .agg #[.bool bA,.slice p1 nA c1,.bool bB,.slice p2 nB c2]:=hv6.trans (by show (.agg #[.bool bA,(vat (vs 2) [1]),.bool bB,(vat (vs 5) [1])]:Value) = _; rw [hv2,hv5]; rfl)
 simp only [pool,if_true,hr0,hr1,hr2,hr3,hr4,hr5,hr6,List.nil_append,List.cons_append,List.append_nil] at hS
 simp only [layf,hv0,hv1,hv2,hv3,hv4,hv5,hv6] at hf
 subst hf; clear hT hv0 hv1 hv2 hv3 hv4 hv5 hv6 hr0 hr1 hr2 hr3 hr4 hr5 hr6
 refine wLt 7 rfl (by kernel_rfl) (oSt _ _ Tryz.sizeOf43 hS 2 rfl rfl (ev rfl rfl) (ev rfl rfl) rfl rfl rfl rfl rfl rfl ?_)
 clear hS; intro w6 hS
 refine ⟨hNi,?_⟩
 refine wdone rfl ?_
 refine tNo ?_
 refine wLv ?_
 refine wr1 Tryz.results94 (tellC (cs:=[.bool bA,.slice p1 nA c1,.bool bB,.slice p2 nB c2]) aggR hS 2 rfl rfl rfl rfl) ?_
 exact ⟨_,_,rfl,⟨_,_,_,_,rfl,rfl⟩,hS.newM [1,0] (by decide) rfl rfl⟩
open Go.RowKit
def zvr (e:Bool × List Nat):Int:=zv e.1 (val e.2)
def ZL (w:World) (p:Option Addr) (m:Nat) (L:List (Bool × List Nat)) (K:Nat):Prop :=
  m = L.length ∧ m ≤ 1048576 ∧ ∀ i e,L[i]? = some e → ∃ g off q n k,p = some ⟨g,off,none⟩ ∧ w.cell? ⟨g,off + i * 2,none⟩ = some (.bool e.1) ∧ w.cell? ⟨g,off + i * 2 + 1,none⟩ = some (.slice q n k) ∧ Sl w q n k e.2 ∧ n ≤ K
theorem ZL.on {w w':World} {p:Option Addr} {m K B:Nat} {L:List (Bool × List Nat)} (h:ZL w p m L K) (hb:Below B w w') (hB:w.heap.size ≤ B):ZL w' p m L K:=by
  refine ⟨h.1,h.2.1,fun i z hi => ?_⟩
  obtain ⟨g,off,q,n,k,hp,h1,h2,h3,h4⟩:=h.2.2 i z hi
  have hg:g < w.heap.size:=World.block_lt_of_cell? w _ h1
  have he:=hb.block g (by omega)
  exact ⟨g,off,q,n,k,hp,(World.cell?_of_block (w:=w) he).trans h1,(World.cell?_of_block (w:=w) he).trans h2,h3.below hb hB,h4⟩
theorem ZL.at {w w':World} {R:List Res} {p:Option Addr} {m K:Nat} {L:List (Bool × List Nat)} (h:ZL w p m L K) (hS:Sep w R w'):ZL w' p m L K:=h.on hS.below (Nat.le_refl _)
theorem ZL.zs {w:World} {p:Option Addr} {m K:Nat} {L:List (Bool × List Nat)} (h:ZL w p m L K):Zs w p m (L.map zvr) K:=by
 refine ⟨by rw [List.length_map]; exact h.1,h.2.1,fun i z hi => ?_⟩
 rw [List.getElem?_map] at hi
 rcases hL:L[i]? with _ | e
 ·rw [hL] at hi; cases hi
 rw [hL] at hi
 simp only [Option.map_some,Option.some.injEq] at hi
 subst hi
 obtain ⟨g,off,q,n,k,hp,h1,h2,h3,h4⟩:=h.2.2 i e hL
 exact ⟨g,off,_,q,n,k,hp,h1,h2,_,h3,rfl,h4⟩
theorem ZL.el {w:World} {p:Option Addr} {m K:Nat} {L:List (Bool × List Nat)} (h:ZL w p m L K) {i:Nat} (hi:i < m):∃ e g off q n k,L[i]? = some e ∧ p = some ⟨g,off,none⟩ ∧ (∀ j v,[Value.bool e.1,.slice q n k][j]? = some v → w.cell? ⟨g,off + i * 2 + j,none⟩ = some v) ∧ Sl w q n k e.2 ∧ n ≤ K:=by
  have hi':i < L.length:=by rw [← h.1]; exact hi
  obtain ⟨g,off,q,n,k,hp,h1,h2,h3,h4⟩:=h.2.2 i L[i] (List.getElem?_eq_getElem hi')
  refine ⟨_,g,off,q,n,k,List.getElem?_eq_getElem hi',hp,fun j v hj => ?_,h3,h4⟩
  match j,hj with
  | 0,hj => simp at hj; subst hj; exact h1
  | 1,hj => simp at hj; subst hj; exact h2
open Go.RowKit
abbrev RawR:=(Bool × List Nat) × (Bool × List Nat)
def rvr (e:RawR):Int × Int:=(zvr e.1,zvr e.2)
def RL (w:World) (p:Option Addr) (m:Nat) (L:List RawR) (K:Nat):Prop :=
  m = L.length ∧ m ≤ 1048576 ∧ ∀ i e,L[i]? = some e → ∃ g off q n k q2 n2 k2,p = some ⟨g,off,none⟩ ∧ (∀ j v,[Value.bool e.1.1,.slice q n k,.bool e.2.1,.slice q2 n2 k2][j]? = some v → w.cell? ⟨g,off + i * 4 + j,none⟩ = some v) ∧ Sl w q n k e.1.2 ∧ Sl w q2 n2 k2 e.2.2 ∧ n ≤ K ∧ n2 ≤ K
theorem RL.on {w w':World} {p:Option Addr} {m K B:Nat} {L:List RawR} (h:RL w p m L K) (hb:Below B w w') (hB:w.heap.size ≤ B):RL w' p m L K:=by
  refine ⟨h.1,h.2.1,fun i z hi => ?_⟩
  obtain ⟨g,off,q,n,k,q2,n2,k2,hp,h1,h2,h3,h4⟩:=h.2.2 i z hi
  have hg:g < w.heap.size:=World.block_lt_of_cell? w _ (h1 0 _ rfl)
  have he:=hb.block g (by omega)
  exact ⟨g,off,q,n,k,q2,n2,k2,hp,fun j v hj => (World.cell?_of_block (w:=w) he).trans (h1 j v hj),h2.below hb hB,h3.below hb hB,h4⟩
theorem RL.at {w w':World} {R:List Res} {p:Option Addr} {m K:Nat} {L:List RawR} (h:RL w p m L K) (hS:Sep w R w'):RL w' p m L K:=h.on hS.below (Nat.le_refl _)
theorem RL.rs {w:World} {p:Option Addr} {m K:Nat} {L:List RawR} (h:RL w p m L K):Rs w p m (L.map rvr) K:=by
 refine ⟨by rw [List.length_map]; exact h.1,h.2.1,fun i z hi => ?_⟩
 rw [List.getElem?_map] at hi
 rcases hL:L[i]? with _ | e
 ·rw [hL] at hi; cases hi
 rw [hL] at hi
 simp only [Option.map_some,Option.some.injEq] at hi
 subst hi
 obtain ⟨g,off,q,n,k,q2,n2,k2,hp,h1,h2,h3,h4,h5⟩:=h.2.2 i e hL
 exact ⟨g,off,_,q,n,k,_,q2,n2,k2,hp,h1,⟨_,h2,rfl,h4⟩,⟨_,h3,rfl,h5⟩⟩
theorem RL.el {w:World} {p:Option Addr} {m K:Nat} {L:List RawR} (h:RL w p m L K) {i:Nat} (hi:i < m):∃ e g off q n k q2 n2 k2,L[i]? = some e ∧ p = some ⟨g,off,none⟩ ∧ (∀ j v,[Value.bool e.1.1,.slice q n k,.bool e.2.1,.slice q2 n2 k2][j]? = some v → w.cell? ⟨g,off + i * 4 + j,none⟩ = some v) ∧ Sl w q n k e.1.2 ∧ Sl w q2 n2 k2 e.2.2 ∧ n ≤ K ∧ n2 ≤ K:=by
  have hi':i < L.length:=by rw [← h.1]; exact hi
  obtain ⟨g,off,q,n,k,q2,n2,k2,r⟩:=h.2.2 i L[i] (List.getElem?_eq_getElem hi')
  exact ⟨_,g,off,q,n,k,q2,n2,k2,List.getElem?_eq_getElem hi',r⟩
def elQ (e:RawR) (p:Option Addr) (n c:Nat) (q:Option Addr) (m d:Nat):El:=⟨[.bool e.1.1,.slice p n c,.bool e.2.1,.slice q m d],[.rowm p n c e.1.2,.rowm q m d e.2.2]⟩
def QEls (L:List RawR) (i:Nat) (es:List El):Prop := ∀ j e,j < i → L[j]? = some e → ∃ p n c q m d,es[j]? = some (elQ e p n c q m d)
theorem QEls.put {L:List RawR} {i:Nat} {es:List El} (h:QEls L i es) (hi:i < es.length) {e:RawR} (hL:L[i]? = some e) (p:Option Addr) (n c:Nat) (q:Option Addr) (m d:Nat):QEls L (i + 1) (es.set i (elQ e p n c q m d)):=by
 intro j e' hj hj'
 by_cases hij:j = i
 ·subst hij
  rw [hL] at hj'
  obtain rfl:=Option.some.inj hj'
  exact ⟨p,n,c,q,m,d,by rw [List.getElem?_set_self hi]⟩
 obtain ⟨p',n',c',q',m',d',h'⟩:=h j e' (by omega) hj'
 exact ⟨p',n',c',q',m',d',by rw [List.getElem?_set_ne (fun h => hij h.symm)]; exact h'⟩
def QLt (L:List RawR) (m:Nat):Tell:=fun v r => ∃ g es,QEls L m es ∧ v = .slice (some ⟨g,0,none⟩) m m ∧ r = [.lst 43 4 (some ⟨g,0,none⟩) m m es]
theorem Sep.rl {w0 w:World} {R:List Res} (hS:Sep w0 R w) (k:Nat) {g m K:Nat} {es:List El} {L:List RawR} (hk:R[k]? = some (.lst 43 4 (some ⟨g,0,none⟩) m m es)) (hz:QEls L m es) (hL:m = L.length) (hm:m ≤ 1048576) (hK:∀ e ∈ L,e.1.2.length ≤ K ∧ e.2.2.length ≤ K):RL w (some ⟨g,0,none⟩) m L K:=by
  refine ⟨hL,hm,fun i e hi => ?_⟩
  have hil:=(List.getElem?_eq_some_iff.1 hi).1
  obtain ⟨p,n,c,q,m2,d,he⟩:=hz i e (by omega) hi
  obtain ⟨g',hg,hc,hr⟩:=hS.lstCell k hk he (by omega)
  simp only [Option.some.injEq,Addr.mk.injEq,and_true] at hg
  subst hg
  have hf:Fr 0 w p n c e.1.2:=hr (.rowm p n c e.1.2) List.mem_cons_self
  have hf2:Fr 0 w q m2 d e.2.2:=hr (.rowm q m2 d e.2.2) (List.mem_cons_of_mem _ List.mem_cons_self)
  have hb:=hK e (List.mem_of_getElem? hi)
  refine ⟨g,0,p,n,c,q,m2,d,rfl,hc,hf.sl,hf2.sl,?_,?_⟩
  · rw [← hf.len]; exact hb.1
  rw [← hf2.len]; exact hb.2
theorem wsCopyAll {L:List RawR} {w:World} {pl:Option Addr} {m cl:Nat} (hx:RL w pl m L 67108864) :
  Calls Tryz.prog 47 #[.slice pl m cl] w (Ret (QLt L m) w):=by
 have hS:=Sep.init w
 refine went Tryz.func47 rfl (n:=23) rfl rfl ?_
 refine wsr (wavc ?_)
 refine wn2 (wmv rfl rfl ?_)
 refine wl rfl (olen rfl rfl rfl Tryz.runUnderlying39 (p:=pl) (k:=m) (m:=cl) (ev rfl rfl) ?_)
 refine wl rfl (omakeL (zs:=[.bool false,.slice none 0 0,.bool false,.slice none 0 0]) (k:=m) (m:=m) hS rfl rfl Tryz.underlying39 infoRat rfl rfl (by decide) rfl (ev rfl rfl) (ev rfl rfl) (by omega) (by have:=hx.2.1; omega) (by have:=hx.2.1; omega) ?_)
 clear hS; intro g1 w2 hS
 refine wav rfl rfl ?_
 refine wn1 (wSq (wsr (wmv rfl rfl ?_)))
 refine wl rfl (olen rfl rfl rfl Tryz.runUnderlying39 (p:=pl) (k:=m) (m:=cl) (ev rfl rfl) ?_)
 refine wmvc ?_
 refine wn1 (wBk ?_)
 refine wLp (σ := Nat) (fun i a w' => ∃ (fb:Nat → Value) (es:List El),a = act 23 (sets fb [(2,.slice none 0 0),(3,.slice (some ⟨g1,0,none⟩) m m),(9,.slice pl m cl),(10,.int .i64 (m:Int)),(11,.int .i64 (i:Int))]) ∧ Sep w [.lst 43 4 (some ⟨g1,0,none⟩) m m es] w' ∧ (i ≤ m) ∧ (QEls L i es) ∧ (es.length = m)) (fun i => m - i) (0) ⟨_,_,aSs ⟨rfl,rfl,rfl,rfl,rfl,trivial⟩,hS,Nat.zero_le _,fun j e h => by omega,by simp⟩ ?_
 clear hS; rintro i _ w3 ⟨fb,es,rfl,hS,hi,hes,hls⟩
 refine wsr ?_
 by_cases hlt:i < m
 ·
  refine wbt rfl rfl rfl rfl (bLs (decide_eq_true (by omega))) ?_
  refine wn1 (wSq ?_)
  refine wT (ev rfl rfl) ?_
  refine wk2 (wmv rfl rfl ?_)
  obtain ⟨e1,g1x,o1,qx,nx,kx,qy,ny,ky,hle,hp1,hc1,hs1,hs2,hn1,hn2⟩:=hx.el hlt
  refine wl rfl (oIx (p:=pl) (g:=g1x) (off:=o1) (m:=m) (k:=i) (j:=(o1 + i * 4)) rfl rfl Tryz.runUnderlying39 Tryz.sizeOf43 (ev rfl rfl) hp1 (ev rfl rfl) hlt rfl ?_)
  refine wl rfl (oloadA aggR rfl rfl (ev rfl rfl) (fun j v hj => hS.cellAt (hc1 j v hj)) rfl ?_)
  refine wl rfl (oAl [.bool false,.slice none 0 0,.bool false,.slice none 0 0] hS rfl rfl Tryz.zeroValue43 rfl ?_)
  clear hS; intro g4 w5 hS
  refine wav rfl rfl ?_
  refine wl rfl (oSt _ _ Tryz.sizeOf43 hS 0 rfl rfl (ev rfl rfl) (ev rfl rfl) rfl rfl rfl rfl rfl rfl ?_)
  clear hS; intro w6 hS
  refine wn1 (wreg (wmv rfl rfl ?_))
  refine wmv rfl rfl ?_
  refine wl rfl (oLd aggR hS 0 rfl rfl (ev rfl rfl) rfl rfl rfl ?_)
  refine wcl Tryz.call94 (wscopy (hs1.below hS.below (Nat.le_refl _)) (hs2.below hS.below (Nat.le_refl _)) (by omega) (by omega)) (ar1 (ev rfl rfl)) hS ?_
  clear hS; rintro _ _ w7 ⟨pc,cc,pd,cd,rfl,rfl⟩ hS
  refine wl rfl (oIx (p:=(some ⟨g1,0,none⟩)) (g:=g1) (off:=0) (m:=m) (k:=i) (j:=(0 + i * 4)) rfl rfl Tryz.runUnderlying39 Tryz.sizeOf43 (ev rfl rfl) (rfl) (ev rfl rfl) hlt rfl ?_)
  obtain hS:=(show Sep w [.rowm pc nx cc e1.1.2,.rowm pd ny cd e1.2.2,.lst 43 4 (some ⟨g1,0,none⟩) m m es,.blk g4 [.bool e1.1.1,.slice qx nx kx,.bool e1.2.1,.slice qy ny ky] 43] w7 from hS.pick [0,1,3,2] (by decide) rfl)
  refine wl rfl (ostoreL (i:=i) (g:=g1) [.bool e1.1.1,.slice pc nx cc,.bool e1.2.1,.slice pd ny cd] [.rowm pc nx cc e1.1.2,.rowm pd ny cd e1.2.2] Tryz.sizeOf43 hS rfl rfl (ev rfl rfl) (ev rfl rfl) (rfl) rfl rfl rfl rfl hlt rfl ?_)
  clear hS; intro w8 hS
  refine wnil (blkN (tNo (wreg (wbc (z:=.int .i64 ((i + 1:Nat):Int)) rfl rfl (bAd (wrap_succ (by have:=hx.2.1; omega))) ?_))))
  refine wmv rfl rfl ?_
  refine wn1 ?_
  exact ⟨(i + 1),⟨_,_,aSs ⟨rfl,rfl,rfl,rfl,rfl,trivial⟩,hS.pick [0] (by decide) rfl,by omega,hes.put (by rw [hls]; exact hlt) hle _ _ _ _ _ _,by rw [List.length_set]; exact hls⟩,by omega⟩
 refine wbt rfl rfl rfl rfl (bLs (decide_eq_false (by omega))) ?_
 refine wn1 (wSq ?_)
 refine wF (ev rfl rfl) ?_
 refine wEx ?_
 refine tEx ?_
 refine tEx ?_
 refine blkE ?_
 refine tNo (wsr (wmv rfl rfl ?_))
 refine wav rfl rfl ?_
 refine wn1 ?_
 refine wLv ?_
 have him:i = m:=by omega
 rw [him] at hes
 refine wr1 Tryz.results47 (tlT (v:=.slice (some ⟨g1,0,none⟩) m m) rfl rfl) ?_
 exact ⟨_,_,rfl,⟨_,_,hes,rfl,rfl⟩,hS.newR 0 rfl rfl⟩
open Go.RowKit
open Go.RowKit
open Go.RowKit
theorem wnlen {p:Option Addr} {n c:Nat} {z:Int} {w:World} (h:Sl w p n c (lim z.natAbs)) (hk:Wd z 67108864) :
  Calls Tryz.prog 68 #[.slice p n c] w (Ret (Is (.int .i64 ((blen z.natAbs:Nat):Int))) w):=by
 have hn:n ≤ 67108864:=by rw [h.lln]; exact hk
 have:=len_any h (by omega)
 rw [vLm] at this
 exact this.mono RetLen.u
open Go.RowKit
section
variable {P:Program} {o:Oper} {n:Nat} {f:Nat → Value} {w w0:World} {R:List Res} {K:Act → World → Prop} {Q:Exit → Act → World → Prop} {d:Nat}
theorem oidx {t e:TypeId} {x i:Operand} {cs:List Value} {k m:Nat} {v:Value} (hop:o.op = .index t x i) (ho:o.dst = some d) (ht:∀ w,(underlying t).run P w = .ok (.array m e) w) (hs:∀ w,(sizeOf e).run P w = .ok 1 w) (ha:∀ w,(isAgg e).run P w = .ok false w)
  (hx:(act n f).eval x = .agg cs.toArray) (hi:(act n f).eval i = .int .i64 ((k:Nat):Int)) (hv:cs[k]? = some v) (hk:k < m) (hK:K (act n (upd f d v)) w):OW P o (act n f) w K Q:=by
 refine oval ho ?_ rfl hK
 have h1:(0:Int) ≤ (k:Int) ∧ (k:Int) < (m:Int):=by omega
 simp [execOp,hop,hx,hi,Instr.index,asIntOf,ht,hs,ha,h1,hk,Go.part,hv]
end
def hgt (L:List (Int × Int)) (i:Nat):Nat:=(L.take i).foldl (fun h e => max (max h (blen e.1.natAbs)) (blen e.2.natAbs)) 0
def hst (h a b:Nat):Nat → Nat
  | 0 => h
  | 1 => max h a
  | _ => max (max h a) b
open Go.RowKit
section
variable {P:Program} {o:Oper} {n:Nat} {f:Nat → Value} {w w0:World} {R:List Res} {K:Act → World → Prop} {Q:Exit → Act → World → Prop} {d:Nat}
theorem wjoin {x y:Code} {a:Act} {I:Act → World → Prop} (hx:CW P x (Exit.then I Q) a w) (hy:∀ a w,I a w → CW P y Q a w):CW P (Code.seq x y) Q a w :=
  wSq ⟨Code.wp_mono (fun e a w q => by cases e <;> first | exact hy _ _ q | exact q) hx.out⟩
end
end Go.Proofs.YtnlnibngpeempaaGreatDoor
