/-
  Contracts and lemmas, joined in one text.
-/
import Derived.Test.YtjnpdpcldmjdjaaGreatDoorRF
import Derived.Test.YtjnpdpcldmjdjaaGreatDoorWC
import Derived.Test.YtjnpdpcldmjdjaaGreatDoorBA
import Derived.WalkKit
import Derived.Test.YtjnpdpcldmjdjaaGreatDoorBG
import Derived.Test.YtjnpdpcldmjdjaaGreatDoorWA
set_option linter.unusedVariables false
set_option linter.unusedSimpArgs false
/-
  What the laws of rat share: same,told,some,lives.
-/
set_option maxRecDepth 100000
set_option maxHeartbeats 16000000
namespace Go.Proofs.YtjnpdpcldmjdjaaGreatDoor
open Go.RowKit
theorem wssameX {b1 b2:Bool} {qA qB qC qD:Option Addr} {nA kA nB kB nC kC nD kD:Nat} {xs ys:List Nat} {w:World} (hsA:Sl w qA nA kA xs) (hsB:Sl w qB nB kB ys) (hsC:Sl w qC nC kC xs) (hsD:Sl w qD nD kD ys) :
  Calls Tryz.prog 36 #[.agg #[.bool b1,.slice qA nA kA,.bool b2,.slice qB nB kB],.agg #[.bool b1,.slice qC nC kC,.bool b2,.slice qD nD kD]] w (Ret (Is (.bool true)) w):=by
 have hS:=Sep.init w
 refine went Tryz.func36 rfl (n:=17) rfl rfl ?_
 refine wsr (wl rfl (obox [.bool b1,.slice qA nA kA,.bool b2,.slice qB nB kB] hS rfl rfl (ev rfl rfl) rfl ?_))
 clear hS; intro g1 w2 hS
 refine wl rfl (obox [.bool b1,.slice qC nC kC,.bool b2,.slice qD nD kD] hS rfl rfl (ev rfl rfl) rfl ?_)
 clear hS; intro g3 w4 hS
 refine wavc ?_
 refine wn2 (wl rfl (oFA (g:=g1) (off:=0) 0 rfl rfl (ev rfl rfl) Tryz.runUnderlying76 rfl Tryz.sizeOf60 rfl ?_))
 refine wl rfl (oLd aggZ hS 1 rfl rfl (ev rfl rfl) rfl rfl rfl ?_)
 refine wl rfl (oFA (g:=g3) (off:=0) 0 rfl rfl (ev rfl rfl) Tryz.runUnderlying76 rfl Tryz.sizeOf60 rfl ?_)
 refine wl rfl (oLd aggZ hS 0 rfl rfl (ev rfl rfl) rfl rfl rfl ?_)
 refine wcl Tryz.call66 ((qsame_yes (hsA.below hS.below (Nat.le_refl _)) (hsC.below hS.below (Nat.le_refl _))).mono RetB.u) (ar2 (ev rfl rfl) (ev rfl rfl)) hS ?_
 clear hS; rintro _ _ w5 ⟨rfl,rfl⟩ hS
 refine wmv rfl rfl ?_
 refine wlOn (e:=10) rfl rfl rfl rfl (oFA (g:=g1) (off:=0) 2 rfl rfl (ev rfl rfl) Tryz.runUnderlying76 rfl Tryz.sizeOf60 rfl ?_)
 refine wlOn (e:=10) rfl rfl rfl rfl (oLd aggZ hS 1 rfl rfl (ev rfl rfl) rfl rfl rfl ?_)
 refine wlOn (e:=10) rfl rfl rfl rfl (oFA (g:=g3) (off:=0) 2 rfl rfl (ev rfl rfl) Tryz.runUnderlying76 rfl Tryz.sizeOf60 rfl ?_)
 refine wlOn (e:=10) rfl rfl rfl rfl (oLd aggZ hS 0 rfl rfl (ev rfl rfl) rfl rfl rfl ?_)
 refine wlOn (e:=10) rfl rfl rfl rfl (oCl rfl rfl Tryz.call66 rfl ((qsame_yes (hsB.below hS.below (Nat.le_refl _)) (hsD.below hS.below (Nat.le_refl _))).mono RetB.u) (ar2 (ev rfl rfl) (ev rfl rfl)) ?_)
 rintro _ w6 ⟨_,_,rfl,⟨rfl,rfl⟩,hN⟩
 refine ⟨_,rfl,?_⟩
 replace hS:=hS.news hN; clear hN
 refine wl rfl (opick rfl rfl (ev rfl rfl) (ev rfl rfl) ?_)
 refine wav rfl rfl ?_
 refine wn1 ?_
 refine wLv ?_
 refine wr1 Tryz.results36 (tlT (v:=.bool true) rfl rfl) ?_
 exact ⟨_,_,rfl,isI,hS.new0⟩
theorem wssame {x y u v:Int} {qA qB qC qD:Option Addr} {nA kA nB kB nC kC nD kD:Nat} {w:World} (hsA:Sl w qA nA kA (lim x.natAbs)) (hsB:Sl w qB nB kB (lim y.natAbs)) (hsC:Sl w qC nC kC (lim u.natAbs)) (hsD:Sl w qD nD kD (lim v.natAbs)) (h1:x = u) (h2:y = v) :
  Calls Tryz.prog 36 #[.agg #[.bool (ng x),.slice qA nA kA,.bool (ng y),.slice qB nB kB],.agg #[.bool (ng u),.slice qC nC kC,.bool (ng v),.slice qD nD kD]] w (Ret (Is (.bool true)) w):=by
 subst h1; subst h2; exact wssameX hsA hsB hsC hsD
open Go.RowKit
def RNgt (z:Int) (b:Bool) (q:Option Addr) (m d:Nat):Tell:=fun v r => ∃ p n c,v = .tuple #[.agg #[.bool (ng z),.slice p n c,.bool b,.slice q m d],.int .i64 0] ∧ r = [.rowm p n c (lim z.natAbs)]
def Rct (b1:Bool) (n:Nat) (xs:List Nat) (b2:Bool) (m:Nat) (ys:List Nat):Tell:=fun v r => ∃ p c q d,v = .agg #[.bool b1,.slice p n c,.bool b2,.slice q m d] ∧ r = [.rowm p n c xs,.rowm q m d ys]
open Go.RowKit
def zvr (e:Bool × List Nat):Int:=zv e.1 (val e.2)
def ZL (w:World) (p:Option Addr) (m:Nat) (L:List (Bool × List Nat)) (K:Nat):Prop :=
  m = L.length ∧ m ≤ 1048576 ∧ ∀ i e,L[i]? = some e → ∃ g off q n k,p = some ⟨g,off,none⟩ ∧ w.cell? ⟨g,off + i * 2,none⟩ = some (.bool e.1) ∧ w.cell? ⟨g,off + i * 2 + 1,none⟩ = some (.slice q n k) ∧ Sl w q n k e.2 ∧ n ≤ K
theorem ZL.on {w w':World} {p:Option Addr} {m K B:Nat} {L:List (Bool × List Nat)} (h:ZL w p m L K) (hb:Below B w w') (hB:w.heap.size ≤ B):ZL w' p m L K:=by
  refine ⟨h.1,h.2.1,fun i z hi => ?_⟩
  obtain ⟨g,off,q,n,k,hp,h1,h2,h3,h4⟩:=h.2.2 i z hi
  have hg:g < w.heap.size:=World.block_lt_of_cell? w _ h1
  have he:=hb.block g (by omega)
  exact ⟨g,off,q,n,k,hp,(World.cell?_of_block (w:=w) he).trans h1,(World.cell?_of_block (w:=w) he).trans h2,h3.below hb hB,h4⟩
theorem ZL.at {w w':World} {R:List Res} {p:Option Addr} {m K:Nat} {L:List (Bool × List Nat)} (h:ZL w p m L K) (hS:Sep w R w'):ZL w' p m L K:=h.on hS.below (Nat.le_refl _)
theorem ZL.zs {w:World} {p:Option Addr} {m K:Nat} {L:List (Bool × List Nat)} (h:ZL w p m L K):Zs w p m (L.map zvr) K:=by
 refine ⟨by rw [List.length_map]; exact h.1,h.2.1,fun i z hi => ?_⟩
 rw [List.getElem?_map] at hi
 rcases hL:L[i]? with _ | e
 ·rw [hL] at hi; cases hi
 rw [hL] at hi
 simp only [Option.map_some,Option.some.injEq] at hi
 subst hi
 obtain ⟨g,off,q,n,k,hp,h1,h2,h3,h4⟩:=h.2.2 i e hL
 exact ⟨g,off,_,q,n,k,hp,h1,h2,_,h3,rfl,h4⟩
theorem ZL.el {w:World} {p:Option Addr} {m K:Nat} {L:List (Bool × List Nat)} (h:ZL w p m L K) {i:Nat} (hi:i < m):∃ e g off q n k,L[i]? = some e ∧ p = some ⟨g,off,none⟩ ∧ (∀ j v,[Value.bool e.1,.slice q n k][j]? = some v → w.cell? ⟨g,off + i * 2 + j,none⟩ = some v) ∧ Sl w q n k e.2 ∧ n ≤ K:=by
  have hi':i < L.length:=by rw [← h.1]; exact hi
  obtain ⟨g,off,q,n,k,hp,h1,h2,h3,h4⟩:=h.2.2 i L[i] (List.getElem?_eq_getElem hi')
  refine ⟨_,g,off,q,n,k,List.getElem?_eq_getElem hi',hp,fun j v hj => ?_,h3,h4⟩
  match j,hj with
  | 0,hj => simp at hj; subst hj; exact h1
  | 1,hj => simp at hj; subst hj; exact h2
open Go.RowKit
abbrev RawR:=(Bool × List Nat) × (Bool × List Nat)
def rvr (e:RawR):Int × Int:=(zvr e.1,zvr e.2)
def RL (w:World) (p:Option Addr) (m:Nat) (L:List RawR) (K:Nat):Prop :=
  m = L.length ∧ m ≤ 1048576 ∧ ∀ i e,L[i]? = some e → ∃ g off q n k q2 n2 k2,p = some ⟨g,off,none⟩ ∧ (∀ j v,[Value.bool e.1.1,.slice q n k,.bool e.2.1,.slice q2 n2 k2][j]? = some v → w.cell? ⟨g,off + i * 4 + j,none⟩ = some v) ∧ Sl w q n k e.1.2 ∧ Sl w q2 n2 k2 e.2.2 ∧ n ≤ K ∧ n2 ≤ K
theorem RL.on {w w':World} {p:Option Addr} {m K B:Nat} {L:List RawR} (h:RL w p m L K) (hb:Below B w w') (hB:w.heap.size ≤ B):RL w' p m L K:=by
  refine ⟨h.1,h.2.1,fun i z hi => ?_⟩
  obtain ⟨g,off,q,n,k,q2,n2,k2,hp,h1,h2,h3,h4⟩:=h.2.2 i z hi
  have hg:g < w.heap.size:=World.block_lt_of_cell? w _ (h1 0 _ rfl)
  have he:=hb.block g (by omega)
  exact ⟨g,off,q,n,k,q2,n2,k2,hp,fun j v hj => (World.cell?_of_block (w:=w) he).trans (h1 j v hj),h2.below hb hB,h3.below hb hB,h4⟩
theorem RL.at {w w':World} {R:List Res} {p:Option Addr} {m K:Nat} {L:List RawR} (h:RL w p m L K) (hS:Sep w R w'):RL w' p m L K:=h.on hS.below (Nat.le_refl _)
theorem RL.rs {w:World} {p:Option Addr} {m K:Nat} {L:List RawR} (h:RL w p m L K):Rs w p m (L.map rvr) K:=by
 refine ⟨by rw [List.length_map]; exact h.1,h.2.1,fun i z hi => ?_⟩
 rw [List.getElem?_map] at hi
 rcases hL:L[i]? with _ | e
 ·rw [hL] at hi; cases hi
 rw [hL] at hi
 simp only [Option.map_some,Option.some.injEq] at hi
 subst hi
 obtain ⟨g,off,q,n,k,q2,n2,k2,hp,h1,h2,h3,h4,h5⟩:=h.2.2 i e hL
 exact ⟨g,off,_,q,n,k,_,q2,n2,k2,hp,h1,⟨_,h2,rfl,h4⟩,⟨_,h3,rfl,h5⟩⟩
theorem RL.el {w:World} {p:Option Addr} {m K:Nat} {L:List RawR} (h:RL w p m L K) {i:Nat} (hi:i < m):∃ e g off q n k q2 n2 k2,L[i]? = some e ∧ p = some ⟨g,off,none⟩ ∧ (∀ j v,[Value.bool e.1.1,.slice q n k,.bool e.2.1,.slice q2 n2 k2][j]? = some v → w.cell? ⟨g,off + i * 4 + j,none⟩ = some v) ∧ Sl w q n k e.1.2 ∧ Sl w q2 n2 k2 e.2.2 ∧ n ≤ K ∧ n2 ≤ K:=by
  have hi':i < L.length:=by rw [← h.1]; exact hi
  obtain ⟨g,off,q,n,k,q2,n2,k2,r⟩:=h.2.2 i L[i] (List.getElem?_eq_getElem hi')
  exact ⟨_,g,off,q,n,k,q2,n2,k2,List.getElem?_eq_getElem hi',r⟩
def elQ (e:RawR) (p:Option Addr) (n c:Nat) (q:Option Addr) (m d:Nat):El:=⟨[.bool e.1.1,.slice p n c,.bool e.2.1,.slice q m d],[.rowm p n c e.1.2,.rowm q m d e.2.2]⟩
def QEls (L:List RawR) (i:Nat) (es:List El):Prop := ∀ j e,j < i → L[j]? = some e → ∃ p n c q m d,es[j]? = some (elQ e p n c q m d)
theorem QEls.put {L:List RawR} {i:Nat} {es:List El} (h:QEls L i es) (hi:i < es.length) {e:RawR} (hL:L[i]? = some e) (p:Option Addr) (n c:Nat) (q:Option Addr) (m d:Nat):QEls L (i + 1) (es.set i (elQ e p n c q m d)):=by
 intro j e' hj hj'
 by_cases hij:j = i
 ·subst hij
  rw [hL] at hj'
  obtain rfl:=Option.some.inj hj'
  exact ⟨p,n,c,q,m,d,by rw [List.getElem?_set_self hi]⟩
 obtain ⟨p',n',c',q',m',d',h'⟩:=h j e' (by omega) hj'
 exact ⟨p',n',c',q',m',d',by rw [List.getElem?_set_ne (fun h => hij h.symm)]; exact h'⟩
def QLt (L:List RawR) (m:Nat):Tell:=fun v r => ∃ g es,QEls L m es ∧ v = .slice (some ⟨g,0,none⟩) m m ∧ r = [.lst 76 4 (some ⟨g,0,none⟩) m m es]
theorem RL.bd {w:World} {p:Option Addr} {m K:Nat} {L:List RawR} (h:RL w p m L K):∀ e ∈ L,e.1.2.length ≤ K ∧ e.2.2.length ≤ K:=by
  intro e he
  obtain ⟨i,hi⟩:=List.mem_iff_getElem?.1 he
  obtain ⟨g,off,q,n,k,q2,n2,k2,hp,h1,h2,h3,h4,h5⟩:=h.2.2 i e hi
  rw [h2.len,h3.len]; exact ⟨h4,h5⟩
theorem Sep.rl {w0 w:World} {R:List Res} (hS:Sep w0 R w) (k:Nat) {g m K:Nat} {es:List El} {L:List RawR} (hk:R[k]? = some (.lst 76 4 (some ⟨g,0,none⟩) m m es)) (hz:QEls L m es) (hL:m = L.length) (hm:m ≤ 1048576) (hK:∀ e ∈ L,e.1.2.length ≤ K ∧ e.2.2.length ≤ K):RL w (some ⟨g,0,none⟩) m L K:=by
  refine ⟨hL,hm,fun i e hi => ?_⟩
  have hil:=(List.getElem?_eq_some_iff.1 hi).1
  obtain ⟨p,n,c,q,m2,d,he⟩:=hz i e (by omega) hi
  obtain ⟨g',hg,hc,hr⟩:=hS.lstCell k hk he (by omega)
  simp only [Option.some.injEq,Addr.mk.injEq,and_true] at hg
  subst hg
  have hf:Fr 0 w p n c e.1.2:=hr (.rowm p n c e.1.2) List.mem_cons_self
  have hf2:Fr 0 w q m2 d e.2.2:=hr (.rowm q m2 d e.2.2) (List.mem_cons_of_mem _ List.mem_cons_self)
  have hb:=hK e (List.mem_of_getElem? hi)
  refine ⟨g,0,p,n,c,q,m2,d,rfl,hc,hf.sl,hf2.sl,?_,?_⟩
  · rw [← hf.len]; exact hb.1
  rw [← hf2.len]; exact hb.2
open Go.RowKit
open Go.RowKit
open Go.RowKit
def PowOk (x:Int) (k:Nat):Prop:=blen x.natAbs ≤ 1 ∨ k = 0 ∨ blen x.natAbs * k ≤ 40000
def PowBig (x:Int) (k:Nat):Prop:=1 < blen x.natAbs ∧ 0 < k ∧ (67108864 < k ∨ 67108864 ≤ (blen x.natAbs - 1) * k)
def Lg (B K:Nat):Prop:=1 < B ∧ K < 67108864 ∧ 40000 < B * K ∧ (B - 1) * K < 67108864
open Go.RowKit
section
variable {P:Program} {o:Oper} {n:Nat} {f:Nat → Value} {w w0:World} {R:List Res} {K:Act → World → Prop} {Q:Exit → Act → World → Prop} {d:Nat}
theorem oidx {t e:TypeId} {x i:Operand} {cs:List Value} {k m:Nat} {v:Value} (hop:o.op = .index t x i) (ho:o.dst = some d) (ht:∀ w,(underlying t).run P w = .ok (.array m e) w) (hs:∀ w,(sizeOf e).run P w = .ok 1 w) (ha:∀ w,(isAgg e).run P w = .ok false w)
  (hx:(act n f).eval x = .agg cs.toArray) (hi:(act n f).eval i = .int .i64 ((k:Nat):Int)) (hv:cs[k]? = some v) (hk:k < m) (hK:K (act n (upd f d v)) w):OW P o (act n f) w K Q:=by
 refine oval ho ?_ rfl hK
 have h1:(0:Int) ≤ (k:Int) ∧ (k:Int) < (m:Int):=by omega
 simp [execOp,hop,hx,hi,Instr.index,asIntOf,ht,hs,ha,h1,hk,Go.part,hv]
end
def hgt (L:List (Int × Int)) (i:Nat):Nat:=(L.take i).foldl (fun h e => max (max h (blen e.1.natAbs)) (blen e.2.natAbs)) 0
def hst (h a b:Nat):Nat → Nat
  | 0 => h
  | 1 => max h a
  | _ => max (max h a) b
open Go.RowKit
section
variable {P:Program} {o:Oper} {n:Nat} {f:Nat → Value} {w w0:World} {R:List Res} {K:Act → World → Prop} {Q:Exit → Act → World → Prop} {d:Nat}
theorem omakeFunc {F:FuncId} {xs:Array Operand} {cs:Array Value} (hop:o.op = .makeFunc (.func F) #[] xs) (ho:o.dst = some d) (hx:xs.map (act n f).eval = cs) (hK:K (act n (upd f d (.func (.func F) #[] cs))) w):OW P o (act n f) w K Q :=
  oval ho (by simp [execOp,hop,hx,Instr.makeFunc]) rfl hK
theorem wjoin {x y:Code} {a:Act} {I:Act → World → Prop} (hx:CW P x (Exit.then I Q) a w) (hy:∀ a w,I a w → CW P y Q a w):CW P (Code.seq x y) Q a w :=
  wSq ⟨Code.wp_mono (fun e a w q => by cases e <;> first | exact hy _ _ q | exact q) hx.out⟩
end
end Go.Proofs.YtjnpdpcldmjdjaaGreatDoor
