/-
  Contracts and lemmas, joined in one text.
-/
import Derived.Test.YtnlnibngpeempaaGreatDoorRF
import Derived.Test.YtnlnibngpeempaaGreatDoorWC
import Derived.Test.YtnlnibngpeempaaGreatDoorBA
import Derived.WalkKit
import Derived.Test.YtnlnibngpeempaaGreatDoorBG
import Derived.Test.YtnlnibngpeempaaGreatDoorWA
set_option linter.unusedVariables false
set_option linter.unusedSimpArgs false
/-
  What the laws of rat share: same,told,some,lives.
-/
set_option maxRecDepth 100000
set_option maxHeartbeats 16000000
namespace Go.Proofs.YtnlnibngpeempaaGreatDoor
open Go.RowKit
theorem wssameX {b1 b2:Bool} {qA qB qC qD:Option Addr} {nA kA nB kB nC kC nD kD:Nat} {xs ys:List Nat} {w:World} (hsA:Sl w qA nA kA xs) (hsB:Sl w qB nB kB ys) (hsC:Sl w qC nC kC xs) (hsD:Sl w qD nD kD ys) :
  Calls Tryz.prog 25 #[.agg #[.bool b1,.slice qA nA kA,.bool b2,.slice qB nB kB],.agg #[.bool b1,.slice qC nC kC,.bool b2,.slice qD nD kD]] w (Ret (Is (.bool true)) w):=by
 have hS:=Sep.init w
 refine went Tryz.func25 rfl (n:=17) rfl rfl ?_
 refine wsr (wl rfl (obox [.bool b1,.slice qA nA kA,.bool b2,.slice qB nB kB] hS rfl rfl (ev rfl rfl) rfl ?_))
 clear hS; intro g1 w2 hS
 refine wl rfl (obox [.bool b1,.slice qC nC kC,.bool b2,.slice qD nD kD] hS rfl rfl (ev rfl rfl) rfl ?_)
 clear hS; intro g3 w4 hS
 refine wavc ?_
 refine wn2 (wl rfl (oFA (g:=g1) (off:=0) 0 rfl rfl (ev rfl rfl) Tryz.runUnderlying43 rfl Tryz.sizeOf28 rfl ?_))
 refine wl rfl (oLd aggZ hS 1 rfl rfl (ev rfl rfl) rfl rfl rfl ?_)
 refine wl rfl (oFA (g:=g3) (off:=0) 0 rfl rfl (ev rfl rfl) Tryz.runUnderlying43 rfl Tryz.sizeOf28 rfl ?_)
 refine wl rfl (oLd aggZ hS 0 rfl rfl (ev rfl rfl) rfl rfl rfl ?_)
 refine wcl Tryz.call23 ((qsame_yes (hsA.below hS.below (Nat.le_refl _)) (hsC.below hS.below (Nat.le_refl _))).mono RetB.u) (ar2 (ev rfl rfl) (ev rfl rfl)) hS ?_
 clear hS; rintro _ _ w5 ⟨rfl,rfl⟩ hS
 refine wmv rfl rfl ?_
 refine wlOn (e:=10) rfl rfl rfl rfl (oFA (g:=g1) (off:=0) 2 rfl rfl (ev rfl rfl) Tryz.runUnderlying43 rfl Tryz.sizeOf28 rfl ?_)
 refine wlOn (e:=10) rfl rfl rfl rfl (oLd aggZ hS 1 rfl rfl (ev rfl rfl) rfl rfl rfl ?_)
 refine wlOn (e:=10) rfl rfl rfl rfl (oFA (g:=g3) (off:=0) 2 rfl rfl (ev rfl rfl) Tryz.runUnderlying43 rfl Tryz.sizeOf28 rfl ?_)
 refine wlOn (e:=10) rfl rfl rfl rfl (oLd aggZ hS 0 rfl rfl (ev rfl rfl) rfl rfl rfl ?_)
 refine wlOn (e:=10) rfl rfl rfl rfl (oCl rfl rfl Tryz.call23 rfl ((qsame_yes (hsB.below hS.below (Nat.le_refl _)) (hsD.below hS.below (Nat.le_refl _))).mono RetB.u) (ar2 (ev rfl rfl) (ev rfl rfl)) ?_)
 rintro _ w6 ⟨_,_,rfl,⟨rfl,rfl⟩,hN⟩
 refine ⟨_,rfl,?_⟩
 replace hS:=hS.news hN; clear hN
 refine wl rfl (opick rfl rfl (ev rfl rfl) (ev rfl rfl) ?_)
 refine wav rfl rfl ?_
 refine wn1 ?_
 refine wLv ?_
 refine wr1 Tryz.results25 (tlT (v:=.bool true) rfl rfl) ?_
 exact ⟨_,_,rfl,isI,hS.new0⟩
theorem wssame {x y u v:Int} {qA qB qC qD:Option Addr} {nA kA nB kB nC kC nD kD:Nat} {w:World} (hsA:Sl w qA nA kA (lim x.natAbs)) (hsB:Sl w qB nB kB (lim y.natAbs)) (hsC:Sl w qC nC kC (lim u.natAbs)) (hsD:Sl w qD nD kD (lim v.natAbs)) (h1:x = u) (h2:y = v) :
  Calls Tryz.prog 25 #[.agg #[.bool (ng x),.slice qA nA kA,.bool (ng y),.slice qB nB kB],.agg #[.bool (ng u),.slice qC nC kC,.bool (ng v),.slice qD nD kD]] w (Ret (Is (.bool true)) w):=by
 subst h1; subst h2; exact wssameX hsA hsB hsC hsD
theorem wqsame {p q:Option Addr} {n m c d:Nat} {x y:Int} {w:World} (hx:Sl w p n c (lim x.natAbs)) (hy:Sl w q m d (lim y.natAbs)) (he:x = y) :
  Calls Tryz.prog 23 #[.agg #[.bool (ng x),.slice p n c],.agg #[.bool (ng y),.slice q m d]] w (Ret (Is (.bool true)) w):=by
 subst he; exact (qsame_yes hx hy).mono RetB.u
open Go.RowKit
def RNgt (z:Int) (b:Bool) (q:Option Addr) (m d:Nat):Tell:=fun v r => ∃ p n c,v = .tuple #[.agg #[.bool (ng z),.slice p n c,.bool b,.slice q m d],.int .i64 0] ∧ r = [.rowm p n c (lim z.natAbs)]
def Rct (b1:Bool) (n:Nat) (xs:List Nat) (b2:Bool) (m:Nat) (ys:List Nat):Tell:=fun v r => ∃ p c q d,v = .agg #[.bool b1,.slice p n c,.bool b2,.slice q m d] ∧ r = [.rowm p n c xs,.rowm q m d ys]
open Go.RowKit
def zvr (e:Bool × List Nat):Int:=zv e.1 (val e.2)
def ZL (w:World) (p:Option Addr) (m:Nat) (L:List (Bool × List Nat)) (K:Nat):Prop :=
  m = L.length ∧ m ≤ 1048576 ∧ ∀ i e,L[i]? = some e → ∃ g off q n k,p = some ⟨g,off,none⟩ ∧ w.cell? ⟨g,off + i * 2,none⟩ = some (.bool e.1) ∧ w.cell? ⟨g,off + i * 2 + 1,none⟩ = some (.slice q n k) ∧ Sl w q n k e.2 ∧ n ≤ K
theorem ZL.on {w w':World} {p:Option Addr} {m K B:Nat} {L:List (Bool × List Nat)} (h:ZL w p m L K) (hb:Below B w w') (hB:w.heap.size ≤ B):ZL w' p m L K:=by
  refine ⟨h.1,h.2.1,fun i z hi => ?_⟩
  obtain ⟨g,off,q,n,k,hp,h1,h2,h3,h4⟩:=h.2.2 i z hi
  have hg:g < w.heap.size:=World.block_lt_of_cell? w _ h1
  have he:=hb.block g (by omega)
  exact ⟨g,off,q,n,k,hp,(World.cell?_of_block (w:=w) he).trans h1,(World.cell?_of_block (w:=w) he).trans h2,h3.below hb hB,h4⟩
theorem ZL.at {w w':World} {R:List Res} {p:Option Addr} {m K:Nat} {L:List (Bool × List Nat)} (h:ZL w p m L K) (hS:Sep w R w'):ZL w' p m L K:=h.on hS.below (Nat.le_refl _)
theorem ZL.zs {w:World} {p:Option Addr} {m K:Nat} {L:List (Bool × List Nat)} (h:ZL w p m L K):Zs w p m (L.map zvr) K:=by
 refine ⟨by rw [List.length_map]; exact h.1,h.2.1,fun i z hi => ?_⟩
 rw [List.getElem?_map] at hi
 rcases hL:L[i]? with _ | e
 ·rw [hL] at hi; cases hi
 rw [hL] at hi
 simp only [Option.map_some,Option.some.injEq] at hi
 subst hi
 obtain ⟨g,off,q,n,k,hp,h1,h2,h3,h4⟩:=h.2.2 i e hL
 exact ⟨g,off,_,q,n,k,hp,h1,h2,_,h3,rfl,h4⟩
theorem ZL.el {w:World} {p:Option Addr} {m K:Nat} {L:List (Bool × List Nat)} (h:ZL w p m L K) {i:Nat} (hi:i < m):∃ e g off q n k,L[i]? = some e ∧ p = some ⟨g,off,none⟩ ∧ (∀ j v,[Value.bool e.1,.slice q n k][j]? = some v → w.cell? ⟨g,off + i * 2 + j,none⟩ = some v) ∧ Sl w q n k e.2 ∧ n ≤ K:=by
  have hi':i < L.length:=by rw [← h.1]; exact hi
  obtain ⟨g,off,q,n,k,hp,h1,h2,h3,h4⟩:=h.2.2 i L[i] (List.getElem?_eq_getElem hi')
  refine ⟨_,g,off,q,n,k,List.getElem?_eq_getElem hi',hp,fun j v hj => ?_,h3,h4⟩
  match j,hj with
  | 0,hj => simp at hj; subst hj; exact h1
  | 1,hj => simp at hj; subst hj; exact h2
open Go.RowKit
abbrev RawR:=(Bool × List Nat) × (Bool × List Nat)
def rvr (e:RawR):Int × Int:=(zvr e.1,zvr e.2)
def RL (w:World) (p:Option Addr) (m:Nat) (L:List RawR) (K:Nat):Prop :=
  m = L.length ∧ m ≤ 1048576 ∧ ∀ i e,L[i]? = some e → ∃ g off q n k q2 n2 k2,p = some ⟨g,off,none⟩ ∧ (∀ j v,[Value.bool e.1.1,.slice q n k,.bool e.2.1,.slice q2 n2 k2][j]? = some v → w.cell? ⟨g,off + i * 4 + j,none⟩ = some v) ∧ Sl w q n k e.1.2 ∧ Sl w q2 n2 k2 e.2.2 ∧ n ≤ K ∧ n2 ≤ K
theorem RL.on {w w':World} {p:Option Addr} {m K B:Nat} {L:List RawR} (h:RL w p m L K) (hb:Below B w w') (hB:w.heap.size ≤ B):RL w' p m L K:=by
  refine ⟨h.1,h.2.1,fun i z hi => ?_⟩
  obtain ⟨g,off,q,n,k,q2,n2,k2,hp,h1,h2,h3,h4⟩:=h.2.2 i z hi
  have hg:g < w.heap.size:=World.block_lt_of_cell? w _ (h1 0 _ rfl)
  have he:=hb.block g (by omega)
  exact ⟨g,off,q,n,k,q2,n2,k2,hp,fun j v hj => (World.cell?_of_block (w:=w) he).trans (h1 j v hj),h2.below hb hB,h3.below hb hB,h4⟩
theorem RL.at {w w':World} {R:List Res} {p:Option Addr} {m K:Nat} {L:List RawR} (h:RL w p m L K) (hS:Sep w R w'):RL w' p m L K:=h.on hS.below (Nat.le_refl _)
theorem RL.rs {w:World} {p:Option Addr} {m K:Nat} {L:List RawR} (h:RL w p m L K):Rs w p m (L.map rvr) K:=by
 refine ⟨by rw [List.length_map]; exact h.1,h.2.1,fun i z hi => ?_⟩
 rw [List.getElem?_map] at hi
 rcases hL:L[i]? with _ | e
 ·rw [hL] at hi; cases hi
 rw [hL] at hi
 simp only [Option.map_some,Option.some.injEq] at hi
 subst hi
 obtain ⟨g,off,q,n,k,q2,n2,k2,hp,h1,h2,h3,h4,h5⟩:=h.2.2 i e hL
 exact ⟨g,off,_,q,n,k,_,q2,n2,k2,hp,h1,⟨_,h2,rfl,h4⟩,⟨_,h3,rfl,h5⟩⟩
theorem RL.el {w:World} {p:Option Addr} {m K:Nat} {L:List RawR} (h:RL w p m L K) {i:Nat} (hi:i < m):∃ e g off q n k q2 n2 k2,L[i]? = some e ∧ p = some ⟨g,off,none⟩ ∧ (∀ j v,[Value.bool e.1.1,.slice q n k,.bool e.2.1,.slice q2 n2 k2][j]? = some v → w.cell? ⟨g,off + i * 4 + j,none⟩ = some v) ∧ Sl w q n k e.1.2 ∧ Sl w q2 n2 k2 e.2.2 ∧ n ≤ K ∧ n2 ≤ K:=by
  have hi':i < L.length:=by rw [← h.1]; exact hi
  obtain ⟨g,off,q,n,k,q2,n2,k2,r⟩:=h.2.2 i L[i] (List.getElem?_eq_getElem hi')
  exact ⟨_,g,off,q,n,k,q2,n2,k2,List.getElem?_eq_getElem hi',r⟩
def elQ (e:RawR) (p:Option Addr) (n c:Nat) (q:Option Addr) (m d:Nat):El:=⟨[.bool e.1.1,.slice p n c,.bool e.2.1,.slice q m d],[.rowm p n c e.1.2,.rowm q m d e.2.2]⟩
def QEls (L:List RawR) (i:Nat) (es:List El):Prop := ∀ j e,j < i → L[j]? = some e → ∃ p n c q m d,es[j]? = some (elQ e p n c q m d)
theorem QEls.put {L:List RawR} {i:Nat} {es:List El} (h:QEls L i es) (hi:i < es.length) {e:RawR} (hL:L[i]? = some e) (p:Option Addr) (n c:Nat) (q:Option Addr) (m d:Nat):QEls L (i + 1) (es.set i (elQ e p n c q m d)):=by
 intro j e' hj hj'
 by_cases hij:j = i
 ·subst hij
  rw [hL] at hj'
  obtain rfl:=Option.some.inj hj'
  exact ⟨p,n,c,q,m,d,by rw [List.getElem?_set_self hi]⟩
 obtain ⟨p',n',c',q',m',d',h'⟩:=h j e' (by omega) hj'
 exact ⟨p',n',c',q',m',d',by rw [List.getElem?_set_ne (fun h => hij h.symm)]; exact h'⟩
def QLt (L:List RawR) (m:Nat):Tell:=fun v r => ∃ g es,QEls L m es ∧ v = .slice (some ⟨g,0,none⟩) m m ∧ r = [.lst 43 4 (some ⟨g,0,none⟩) m m es]
theorem RL.bd {w:World} {p:Option Addr} {m K:Nat} {L:List RawR} (h:RL w p m L K):∀ e ∈ L,e.1.2.length ≤ K ∧ e.2.2.length ≤ K:=by
  intro e he
  obtain ⟨i,hi⟩:=List.mem_iff_getElem?.1 he
  obtain ⟨g,off,q,n,k,q2,n2,k2,hp,h1,h2,h3,h4,h5⟩:=h.2.2 i e hi
  rw [h2.len,h3.len]; exact ⟨h4,h5⟩
theorem Sep.rl {w0 w:World} {R:List Res} (hS:Sep w0 R w) (k:Nat) {g m K:Nat} {es:List El} {L:List RawR} (hk:R[k]? = some (.lst 43 4 (some ⟨g,0,none⟩) m m es)) (hz:QEls L m es) (hL:m = L.length) (hm:m ≤ 1048576) (hK:∀ e ∈ L,e.1.2.length ≤ K ∧ e.2.2.length ≤ K):RL w (some ⟨g,0,none⟩) m L K:=by
  refine ⟨hL,hm,fun i e hi => ?_⟩
  have hil:=(List.getElem?_eq_some_iff.1 hi).1
  obtain ⟨p,n,c,q,m2,d,he⟩:=hz i e (by omega) hi
  obtain ⟨g',hg,hc,hr⟩:=hS.lstCell k hk he (by omega)
  simp only [Option.some.injEq,Addr.mk.injEq,and_true] at hg
  subst hg
  have hf:Fr 0 w p n c e.1.2:=hr (.rowm p n c e.1.2) List.mem_cons_self
  have hf2:Fr 0 w q m2 d e.2.2:=hr (.rowm q m2 d e.2.2) (List.mem_cons_of_mem _ List.mem_cons_self)
  have hb:=hK e (List.mem_of_getElem? hi)
  refine ⟨g,0,p,n,c,q,m2,d,rfl,hc,hf.sl,hf2.sl,?_,?_⟩
  · rw [← hf.len]; exact hb.1
  rw [← hf2.len]; exact hb.2
open Go.RowKit
open Go.RowKit
open Go.RowKit
def PowOk (x:Int) (k:Nat):Prop:=blen x.natAbs ≤ 1 ∨ k = 0 ∨ blen x.natAbs * k ≤ 40000
def PowBig (x:Int) (k:Nat):Prop:=1 < blen x.natAbs ∧ 0 < k ∧ (67108864 < k ∨ 67108864 ≤ (blen x.natAbs - 1) * k)
def Lg (B K:Nat):Prop:=1 < B ∧ K < 67108864 ∧ 40000 < B * K ∧ (B - 1) * K < 67108864
theorem zv_abs (b:Bool) (n:Nat):(zv b n).natAbs = n:=by unfold zv; cases b <;> simp
theorem wrlen {p:Option Addr} {n c:Nat} {z:Int} {w:World} (h:Sl w p n c (lim z.natAbs)) (hk:Wd z 67108864) :
  Calls Tryz.prog 130 #[.slice p n c] w (Ret (Is (.int .i64 ((blen z.natAbs:Nat):Int))) w):=by
 have hn:n ≤ 67108864:=by rw [h.lln]; exact hk
 have:=rlen_any h (by omega)
 rw [vLm] at this
 exact this.mono RetInt.u
theorem wnlen {p:Option Addr} {n c:Nat} {z:Int} {w:World} (h:Sl w p n c (lim z.natAbs)) (hk:Wd z 67108864) :
  Calls Tryz.prog 68 #[.slice p n c] w (Ret (Is (.int .i64 ((blen z.natAbs:Nat):Int))) w):=by
 have hn:n ≤ 67108864:=by rw [h.lln]; exact hk
 have:=len_any h (by omega)
 rw [vLm] at this
 exact this.mono RetLen.u
open Go.RowKit
section
variable {P:Program} {o:Oper} {n:Nat} {f:Nat → Value} {w w0:World} {R:List Res} {K:Act → World → Prop} {Q:Exit → Act → World → Prop} {d:Nat}
theorem omax {c:Call} {x y z:Operand} {ts:Array TypeId} {a b e r:Nat} (hop:o.op = .call c) (hc:c = { callee:=.builtin .max,args:=#[x,y,z],argTypes:=ts }) (ho:o.dst = some d)
  (hx:(act n f).eval x = .int .i64 ((a:Nat):Int)) (hy:(act n f).eval y = .int .i64 ((b:Nat):Int)) (hz:(act n f).eval z = .int .i64 ((e:Nat):Int)) (hr:max (max a b) e = r) (hK:K (act n (upd f d (.int .i64 ((r:Nat):Int)))) w):OW P o (act n f) w K Q:=by
 have e1:∀ a b:Nat,(if (b:Int) > (a:Int) then (b:Int) else (a:Int)) = ((max a b:Nat):Int):=fun a b => by
  by_cases h:a < b
  ·rw [if_pos (by omega)]; congr 1; omega
  rw [if_neg (by omega)]; congr 1; omega
 refine oval ho ?_ rfl hK
 subst hc; subst hr
 simp only [execOp,hop,resolve,invoke,builtin,Builtin.max_,Builtin.max2,List.map_toArray,List.map_cons,List.map_nil,hx,hy,hz,Sem.run_bind,Sem.run_pure,Result.andThen_ok,List.foldlM_cons,List.foldlM_nil,e1]
theorem oidx {t e:TypeId} {x i:Operand} {cs:List Value} {k m:Nat} {v:Value} (hop:o.op = .index t x i) (ho:o.dst = some d) (ht:∀ w,(underlying t).run P w = .ok (.array m e) w) (hs:∀ w,(sizeOf e).run P w = .ok 1 w) (ha:∀ w,(isAgg e).run P w = .ok false w)
  (hx:(act n f).eval x = .agg cs.toArray) (hi:(act n f).eval i = .int .i64 ((k:Nat):Int)) (hv:cs[k]? = some v) (hk:k < m) (hK:K (act n (upd f d v)) w):OW P o (act n f) w K Q:=by
 refine oval ho ?_ rfl hK
 have h1:(0:Int) ≤ (k:Int) ∧ (k:Int) < (m:Int):=by omega
 simp [execOp,hop,hx,hi,Instr.index,asIntOf,ht,hs,ha,h1,hk,Go.part,hv]
end
theorem wnlenZ {p:Option Addr} {n c:Nat} {b:Bool} {z:Int} {w:World} (h:Zr w b p n c z 67108864) :
  Calls Tryz.prog 68 #[.slice p n c] w (Ret (Is (.int .i64 ((blen z.natAbs:Nat):Int))) w):=by
 obtain ⟨xs,h1,rfl,h2⟩:=h
 have:=len_any h1 (by omega)
 rw [zv_abs]
 exact this.mono RetLen.u
def hgt (L:List (Int × Int)) (i:Nat):Nat:=(L.take i).foldl (fun h e => max (max h (blen e.1.natAbs)) (blen e.2.natAbs)) 0
theorem hgt_succ {L:List (Int × Int)} {i:Nat} {e:Int × Int} (h:L[i]? = some e):hgt L (i + 1) = max (max (hgt L i) (blen e.1.natAbs)) (blen e.2.natAbs):=by
  unfold hgt
  rw [List.take_add_one,h,List.foldl_append]; rfl
def hst (h a b:Nat):Nat → Nat
  | 0 => h
  | 1 => max h a
  | _ => max (max h a) b
theorem wrheight1 {L:List (Int × Int)} {w:World} {pl:Option Addr} {m cl:Nat} (hl:Rs w pl m L 67108864) :
  Calls Tryz.prog 146 #[.slice pl m cl] w (Ret (Is (.tuple #[.int .i64 ((hgt L m:Nat):Int),.int .i64 0])) w):=by
 have hS:=Sep.init w
 refine went Tryz.func146 rfl (n:=25) rfl rfl ?_
 refine wsr (wavc ?_)
 refine wavc ?_
 refine wn2 (wavc ?_)
 refine wn1 (wSq (wsr (wmv rfl rfl ?_)))
 refine wl rfl (olen rfl rfl rfl Tryz.runUnderlying39 (p:=pl) (k:=m) (m:=cl) (ev rfl rfl) ?_)
 refine wmvc ?_
 refine wn1 (wBk ?_)
 refine wLp (σ := Nat) (fun i a w' => ∃ (fb:Nat → Value) (hh:Nat),a = act 25 (sets fb [(2,.int .i64 0),(3,.int .i64 0),(4,.int .i64 (hh:Int)),(7,.slice pl m cl),(8,.int .i64 (m:Int)),(9,.int .i64 (i:Int))]) ∧ Sep w [] w' ∧ (i ≤ m) ∧ (hh = hgt L i)) (fun i => m - i) (0) ⟨_,_,aSs ⟨rfl,rfl,rfl,rfl,rfl,rfl,trivial⟩,hS,Nat.zero_le _,rfl⟩ ?_
 clear hS; rintro i _ w1 ⟨fb,hh,rfl,hS,hi,hhe⟩
 refine wsr ?_
 by_cases hlt:i < m
 ·
  refine wbt rfl rfl rfl rfl (bLs (decide_eq_true (by omega))) ?_
  refine wn1 (wSq ?_)
  refine wT (ev rfl rfl) ?_
  refine wk2 ?_
  obtain ⟨e1,g1x,o1,bx,qx,nx,kx,by1,qy,ny,ky,hle,hp1,hc1,hzx,hzy⟩:=hl.el hlt
  refine wl rfl (oIx (p:=pl) (g:=g1x) (off:=o1) (m:=m) (k:=i) (j:=(o1 + i * 4)) rfl rfl Tryz.runUnderlying39 Tryz.sizeOf43 (ev rfl rfl) hp1 (ev rfl rfl) hlt rfl ?_)
  refine wl rfl (oloadA aggR rfl rfl (ev rfl rfl) (fun j v hj => hS.cellAt (hc1 j v hj)) rfl ?_)
  refine wl rfl (oAl [.bool false,.slice none 0 0,.bool false,.slice none 0 0] hS rfl rfl Tryz.zeroValue43 rfl ?_)
  clear hS; intro g2 w3 hS
  refine wl rfl (oSt _ _ Tryz.sizeOf43 hS 0 rfl rfl (ev rfl rfl) (ev rfl rfl) rfl rfl rfl rfl rfl rfl ?_)
  clear hS; intro w4 hS
  refine wn1 ?_
  refine wSg 10 [13,14,15,16,17,18,19,20,21,22] [[],[],[1],[2,1],[3,1,2],[],[5],[6,5],[7,1,2,3,4,5,6],[0,4,8,1,2,3,5,6,7]] [] [] [] (fun i9 => ([iSv (.int .i64 (hh:Int)),iSv (.pointer (some ⟨g2,0,none⟩)),iSv (.pointer (some ⟨g2,1,none⟩)),iSv (.slice qx nx kx),iSv (.int .i64 ((blen e1.1.natAbs:Nat):Int)),iSv (.pointer (some ⟨g2,2,none⟩)),iSv (.pointer (some ⟨g2,3,none⟩)),iSv (.slice qy ny ky),iSv (.int .i64 ((blen e1.2.natAbs:Nat):Int)),iSv (.int .i64 (((hgt L (i + 1):Nat):Int)))]:List (List Value → Tell)).getD i9 (fun _ _ _ => False)) hNi (fun d _ _ _ _ h => (by cases d <;> exact h)) (by kernel_rfl) (by kernel_rfl) (by kernel_rfl) hS ?_ ?_
  ·
   refine stM rfl rfl rfl rfl rfl (fun _=>isI) ?_
   refine stH rfl (fun ho _=>?_) ?_
   ·exact inNo rfl (oFA (g:=g2) (off:=0) 0 rfl rfl (ev rfl (ho 6 rfl)) Tryz.runUnderlying43 rfl Tryz.sizeOf28 rfl (nSm rfl isI))
   refine stT rfl (fun hT hS=>?_) ?_
   ·obtain ⟨hv1,hr1⟩:=hT 1 14 rfl rfl
    obtain hS:=hS.flat1 hr1
    exact inNo rfl (oFA (g:=g2) (off:=0) 1 rfl rfl (ev rfl hv1) Tryz.runUnderlying28 rfl Tryz.sizeOf26 rfl (nSm rfl isI))
   refine stT rfl (fun hT hS=>?_) ?_
   ·obtain ⟨hv2,hr2⟩:=hT 2 15 rfl rfl
    obtain hS:=hS.flat1 hr2
    exact inNo rfl (oL1 oneN hS 0 rfl rfl (ev rfl hv2) rfl rfl (nSm rfl isI))
   refine stT rfl (fun hT hS=>?_) ?_
   ·obtain ⟨hv3,hr3⟩:=hT 3 16 rfl rfl
    obtain hS:=hS.flat1 hr3
    exact .inl ⟨wNo rfl,oCl rfl rfl Tryz.call68 rfl (wnlenZ (hzx.at hS)) (ar1 (ev rfl hv3)) cNw⟩
   refine stH rfl (fun ho _=>?_) ?_
   ·exact inNo rfl (oFA (g:=g2) (off:=0) 2 rfl rfl (ev rfl (ho 6 rfl)) Tryz.runUnderlying43 rfl Tryz.sizeOf28 rfl (nSm rfl isI))
   refine stT rfl (fun hT hS=>?_) ?_
   ·obtain ⟨hv5,hr5⟩:=hT 5 18 rfl rfl
    obtain hS:=hS.flat1 hr5
    exact inNo rfl (oFA (g:=g2) (off:=2) 3 rfl rfl (ev rfl hv5) Tryz.runUnderlying28 rfl Tryz.sizeOf26 rfl (nSm rfl isI))
   refine stT rfl (fun hT hS=>?_) ?_
   ·obtain ⟨hv6,hr6⟩:=hT 6 19 rfl rfl
    obtain hS:=hS.flat1 hr6
    exact inNo rfl (oL1 oneN hS 0 rfl rfl (ev rfl hv6) rfl rfl (nSm rfl isI))
   refine stT rfl (fun hT hS=>?_) ?_
   ·obtain ⟨hv7,hr7⟩:=hT 7 20 rfl rfl
    obtain hS:=hS.flat1 hr7
    exact .inl ⟨wNo rfl,oCl rfl rfl Tryz.call68 rfl (wnlenZ (hzy.at hS)) (ar1 (ev rfl hv7)) cNw⟩
   refine stT rfl (fun hT hS=>?_) ?_
   ·obtain ⟨hv0,hr0⟩:=hT 0 13 rfl rfl
    obtain ⟨hv4,hr4⟩:=hT 4 17 rfl rfl
    obtain ⟨hv8,hr8⟩:=hT 8 21 rfl rfl
    obtain hS:=hS.flat3 hr0 hr4 hr8
    exact inNo rfl (omax (a:=hh) (b:=(blen e1.1.natAbs)) (e:=(blen e1.2.natAbs)) (r:=(hgt L (i + 1))) rfl rfl rfl (ev rfl hv0) (ev rfl hv4) (ev rfl hv8) (by rw [hgt_succ hle,hhe]) (nSm rfl isI))
   exact sNi
  intro vs ρ w5 f' hf hT hS
  obtain ⟨hv0,hr0⟩:=hT 0 (by decide)
  obtain ⟨hv1,hr1⟩:=hT 1 (by decide)
  obtain ⟨hv2,hr2⟩:=hT 2 (by decide)
  obtain ⟨hv3,hr3⟩:=hT 3 (by decide)
  obtain ⟨hv4,hr4⟩:=hT 4 (by decide)
  obtain ⟨hv5,hr5⟩:=hT 5 (by decide)
  obtain ⟨hv6,hr6⟩:=hT 6 (by decide)
  obtain ⟨hv7,hr7⟩:=hT 7 (by decide)
  obtain ⟨hv8,hr8⟩:=hT 8 (by decide)
  obtain ⟨hv9,hr9⟩:=hT 9 (by decide)
  simp only [pool,if_true,hr0,hr1,hr2,hr3,hr4,hr5,hr6,hr7,hr8,hr9,List.nil_append,List.cons_append,List.append_nil] at hS
  simp only [layf,hv0,hv1,hv2,hv3,hv4,hv5,hv6,hv7,hv8,hv9] at hf
  subst hf; clear hT hv0 hv1 hv2 hv3 hv4 hv5 hv6 hv7 hv8 hv9 hr0 hr1 hr2 hr3 hr4 hr5 hr6 hr7 hr8 hr9
  refine wLt 10 rfl (by kernel_rfl) (oassign rfl rfl (ev rfl rfl) ?_)
  refine ⟨hNi,?_⟩
  refine wdone rfl ?_
  refine blkN (tNo (wreg (wbc (z:=.int .i64 ((i + 1:Nat):Int)) rfl rfl (bAd (wrap_succ (by have:=hl.2.1; omega))) ?_)))
  refine wmv rfl rfl ?_
  refine wn1 ?_
  exact ⟨(i + 1),⟨_,_,aSs ⟨rfl,rfl,rfl,rfl,rfl,rfl,trivial⟩,hS.pick [] (by decide) rfl,by omega,rfl⟩,by omega⟩
 refine wbt rfl rfl rfl rfl (bLs (decide_eq_false (by omega))) ?_
 refine wn1 (wSq ?_)
 refine wF (ev rfl rfl) ?_
 refine wEx ?_
 refine tEx ?_
 refine tEx ?_
 refine blkE ?_
 refine tNo (wsr (wmv rfl rfl ?_))
 refine wav rfl rfl ?_
 refine wavc ?_
 refine wn1 ?_
 refine wLv ?_
 refine wret2 Tryz.results146 (tlT (v:=.int .i64 (hh:Int)) rfl rfl) (tlT (v:=.int .i64 0) rfl rfl) ?_
 obtain rfl:i = m:=by omega
 subst hhe
 exact ⟨_,_,rfl,isI,hS.new0⟩
theorem wrheight {L:List (Int × Int)} {w:World} {pl:Option Addr} {m cl:Nat} (hl:Rs w pl m L 16777216) (hall:∀ e ∈ L,e.2 ≠ 0) :
  Calls Tryz.prog 125 #[.slice pl m cl] w (Ret (Is (.tuple #[.int .i64 ((hgt (lows L) m:Nat):Int),.int .i64 0])) w):=by
 have hS:=Sep.init w
 refine went Tryz.func125 rfl (n:=8) rfl rfl ?_
 refine wsr (wavc ?_)
 refine wavc ?_
 refine wn2 (wmv rfl rfl ?_)
 refine wcl Tryz.call145 (wmI (z:=((hgt (lows L) m:Nat):Int)) (E:=0) Tryz.call146 (hl.at hS) (by omega) hall (fun w1 p c h => wrheight1 (h.mono (by omega)))) (ar2 rfl (ev rfl rfl)) hS ?_
 clear hS; rintro _ _ w1 ⟨rfl,rfl⟩ hS
 refine wl rfl (oEx rfl rfl (ev rfl rfl) rfl ?_)
 refine wl rfl (oEx rfl rfl (ev rfl rfl) rfl ?_)
 refine wav rfl rfl ?_
 refine wav rfl rfl ?_
 refine wn1 ?_
 refine wLv ?_
 refine wret2 Tryz.results125 (tlT (v:=.int .i64 (((hgt (lows L) m:Nat):Int))) rfl rfl) (tlT (v:=.int .i64 0) rfl rfl) ?_
 exact ⟨_,_,rfl,isI,hS.new0⟩
theorem wsheight {L:List (Int × Int)} {w:World} {pl:Option Addr} {m cl:Nat} (hl:Rs w pl m L 16777216) (hall:∀ e ∈ L,e.2 ≠ 0) :
  Calls Tryz.prog 104 #[.slice pl m cl] w (Ret (Is (.int .i64 ((hgt (lows L) m:Nat):Int))) w):=by
 have hS:=Sep.init w
 refine went Tryz.func104 rfl (n:=35) rfl rfl ?_
 refine wsr (wavc ?_)
 refine wn2 (wavc ?_)
 refine wn1 (wSq (wsr (wmv rfl rfl ?_)))
 refine wl rfl (olen rfl rfl rfl Tryz.runUnderlying39 (p:=pl) (k:=m) (m:=cl) (ev rfl rfl) ?_)
 refine wmvc ?_
 refine wn1 (wBk ?_)
 refine wLp (σ := Nat) (fun i a w' => ∃ (fb:Nat → Value) (hh:Nat),a = act 35 (sets fb [(2,.int .i64 0),(3,.int .i64 (hh:Int)),(8,.slice pl m cl),(9,.int .i64 (m:Int)),(10,.int .i64 (i:Int))]) ∧ Sep w [] w' ∧ (i ≤ m) ∧ (hh = hgt (lows L) i)) (fun i => m - i) (0) ⟨_,_,aSs ⟨rfl,rfl,rfl,rfl,rfl,trivial⟩,hS,Nat.zero_le _,rfl⟩ ?_
 clear hS; rintro i _ w1 ⟨fb,hh,rfl,hS,hi,hhe⟩
 refine wsr ?_
 by_cases hlt:i < m
 ·
  refine wbt rfl rfl rfl rfl (bLs (decide_eq_true (by omega))) ?_
  refine wn1 (wSq ?_)
  refine wT (ev rfl rfl) ?_
  refine wk2 ?_
  obtain ⟨e1,g1x,o1,bx,qx,nx,kx,by1,qy,ny,ky,hle,hp1,hc1,hzx,hzy⟩:=hl.el hlt
  refine wl rfl (oIx (p:=pl) (g:=g1x) (off:=o1) (m:=m) (k:=i) (j:=(o1 + i * 4)) rfl rfl Tryz.runUnderlying39 Tryz.sizeOf43 (ev rfl rfl) hp1 (ev rfl rfl) hlt rfl ?_)
  refine wl rfl (oloadA aggR rfl rfl (ev rfl rfl) (fun j v hj => hS.cellAt (hc1 j v hj)) rfl ?_)
  refine wl rfl (oAl [.bool false,.slice none 0 0,.bool false,.slice none 0 0] hS rfl rfl Tryz.zeroValue43 rfl ?_)
  clear hS; intro g2 w3 hS
  refine wl rfl (oSt _ _ Tryz.sizeOf43 hS 0 rfl rfl (ev rfl rfl) (ev rfl rfl) rfl rfl rfl rfl rfl rfl ?_)
  clear hS; intro w4 hS
  refine wn2 (wl rfl (oLd aggR hS 0 rfl rfl (ev rfl rfl) rfl rfl rfl ?_))
  have h0:=hall e1 (List.mem_of_getElem? hle)
  obtain ⟨z1,hz1⟩:∃ z:Int,Hid (RN e1.1 e1.2 = z):=⟨_,rfl⟩
  have hk1:Wd z1 16777216:=Wd.rn hzx.wd hz1
  obtain ⟨z2,hz2⟩:∃ z:Int,Hid (RD e1.1 e1.2 = z):=⟨_,rfl⟩
  have hk2:Wd z2 16777216:=Wd.rd hzy.wd hz2
  refine wcl Tryz.call129 ((wsnorm ((hzx.at hS).mono (by omega)) ((hzy.at hS).mono (by omega)) h0 hz1 hz2)) (ar1 (ev rfl rfl)) hS ?_
  clear hS; rintro _ _ w5 ⟨p1,n1,c1,p2,n2,c2,rfl,rfl⟩ hS
  refine wl rfl (oSt _ _ Tryz.sizeOf43 hS 2 rfl rfl (ev rfl rfl) (ev rfl rfl) rfl rfl rfl rfl rfl rfl ?_)
  clear hS; intro w6 hS
  refine wn1 (wSq ?_)
  refine wSg 10 [16,17,18,19,20,21,22,23,24,25] [[],[0],[1,0],[2,0,1],[],[4],[5,4],[6,0,1,2,3,4,5],[3,7,0,1,2,4,5,6],[]] [] [] [] (fun i9 => ([iSv (.pointer (some ⟨g2,0,none⟩)),iSv (.pointer (some ⟨g2,1,none⟩)),iSv (.slice p1 n1 c1),iSv (.int .i64 ((blen z1.natAbs:Nat):Int)),iSv (.pointer (some ⟨g2,2,none⟩)),iSv (.pointer (some ⟨g2,3,none⟩)),iSv (.slice p2 n2 c2),iSv (.int .i64 ((blen z2.natAbs:Nat):Int)),iSv (.agg #[.int .i64 ((blen z1.natAbs:Nat):Int),.int .i64 ((blen z2.natAbs:Nat):Int)]),iSv (.int .i64 0)]:List (List Value → Tell)).getD i9 (fun _ _ _ => False)) hNi (fun d _ _ _ _ h => (by cases d <;> exact h)) (by kernel_rfl) (by kernel_rfl) (by kernel_rfl) hS ?_ ?_
  ·
   refine stH rfl (fun ho _=>?_) ?_
   ·exact inNo rfl (oFA (g:=g2) (off:=0) 0 rfl rfl (ev rfl (ho 5 rfl)) Tryz.runUnderlying43 rfl Tryz.sizeOf28 rfl (nSm rfl isI))
   refine stT rfl (fun hT hS=>?_) ?_
   ·obtain ⟨hv0,hr0⟩:=hT 0 16 rfl rfl
    obtain hS:=hS.flat1 hr0
    exact inNo rfl (oFA (g:=g2) (off:=0) 1 rfl rfl (ev rfl hv0) Tryz.runUnderlying28 rfl Tryz.sizeOf26 rfl (nSm rfl isI))
   refine stT rfl (fun hT hS=>?_) ?_
   ·obtain ⟨hv1,hr1⟩:=hT 1 17 rfl rfl
    obtain hS:=hS.flat1 hr1
    exact inNo rfl (oL1 oneN hS 2 rfl rfl (ev rfl hv1) rfl rfl (nSm rfl isI))
   refine stT rfl (fun hT hS=>?_) ?_
   ·obtain ⟨hv2,hr2⟩:=hT 2 18 rfl rfl
    obtain hS:=hS.flat1 hr2
    exact .inl ⟨wNo rfl,oCl rfl rfl Tryz.call130 rfl (wrlen (z:=z1) (hS.slm 0 rfl) (hk1.mono (by omega))) (ar1 (ev rfl hv2)) cNw⟩
   refine stH rfl (fun ho _=>?_) ?_
   ·exact inNo rfl (oFA (g:=g2) (off:=0) 2 rfl rfl (ev rfl (ho 5 rfl)) Tryz.runUnderlying43 rfl Tryz.sizeOf28 rfl (nSm rfl isI))
   refine stT rfl (fun hT hS=>?_) ?_
   ·obtain ⟨hv4,hr4⟩:=hT 4 20 rfl rfl
    obtain hS:=hS.flat1 hr4
    exact inNo rfl (oFA (g:=g2) (off:=2) 3 rfl rfl (ev rfl hv4) Tryz.runUnderlying28 rfl Tryz.sizeOf26 rfl (nSm rfl isI))
   refine stT rfl (fun hT hS=>?_) ?_
   ·obtain ⟨hv5,hr5⟩:=hT 5 21 rfl rfl
    obtain hS:=hS.flat1 hr5
    exact inNo rfl (oL1 oneN hS 2 rfl rfl (ev rfl hv5) rfl rfl (nSm rfl isI))
   refine stT rfl (fun hT hS=>?_) ?_
   ·obtain ⟨hv6,hr6⟩:=hT 6 22 rfl rfl
    obtain hS:=hS.flat1 hr6
    exact .inl ⟨wNo rfl,oCl rfl rfl Tryz.call130 rfl (wrlen (z:=z2) (hS.slm 1 rfl) (hk2.mono (by omega))) (ar1 (ev rfl hv6)) cNw⟩
   refine stT rfl (fun hT hS=>?_) ?_
   ·obtain ⟨hv3,hr3⟩:=hT 3 19 rfl rfl
    obtain ⟨hv7,hr7⟩:=hT 7 23 rfl rfl
    obtain hS:=hS.flat2 hr3 hr7
    exact inNo rfl (obuild (ps:=#[(0,.int .i64 ((blen z1.natAbs:Nat):Int)),(1,.int .i64 ((blen z2.natAbs:Nat):Int))]) (v:=.agg #[.int .i64 ((blen z1.natAbs:Nat):Int),.int .i64 ((blen z2.natAbs:Nat):Int)]) rfl rfl (parts2 (ev rfl hv3) (ev rfl hv7)) (fun w => by simp [go_sem,Instr.build,Instr.fill]) (nSm rfl isI))
   refine stT rfl (fun _ _=>?_) ?_
   ·exact inNo rfl (omove rfl rfl evc (nSm rfl isI))
   exact sNi
  intro vs ρ w7 f' hf hT hS
  obtain ⟨hv0,hr0⟩:=hT 0 (by decide)
  obtain ⟨hv1,hr1⟩:=hT 1 (by decide)
  obtain ⟨hv2,hr2⟩:=hT 2 (by decide)
  obtain ⟨hv3,hr3⟩:=hT 3 (by decide)
  obtain ⟨hv4,hr4⟩:=hT 4 (by decide)
  obtain ⟨hv5,hr5⟩:=hT 5 (by decide)
  obtain ⟨hv6,hr6⟩:=hT 6 (by decide)
  obtain ⟨hv7,hr7⟩:=hT 7 (by decide)
  obtain ⟨hv8,hr8⟩:=hT 8 (by decide)
  obtain ⟨hv9,hr9⟩:=hT 9 (by decide)
  simp only [pool,if_true,hr0,hr1,hr2,hr3,hr4,hr5,hr6,hr7,hr8,hr9,List.nil_append,List.cons_append,List.append_nil] at hS
  simp only [layf,hv0,hv1,hv2,hv3,hv4,hv5,hv6,hv7,hv8,hv9] at hf
  subst hf; clear hT hv0 hv1 hv2 hv3 hv4 hv5 hv6 hv7 hv8 hv9 hr0 hr1 hr2 hr3 hr4 hr5 hr6 hr7 hr8 hr9
  refine wdone rfl ?_
  refine tNo (wBk ?_)
  refine wLp (σ := Nat) (fun jj a w' => ∃ (fb:Nat → Value) (hj:Nat),a = act 35 (sets fb [(2,.int .i64 0),(3,.int .i64 (hj:Int)),(5,.pointer (some ⟨g2,0,none⟩)),(8,.slice pl m cl),(9,.int .i64 (m:Int)),(10,.int .i64 (i:Int)),(11,.bool true),(12,.pointer (some ⟨g1x,(o1 + i * 4),none⟩)),(13,.agg #[.bool bx,.slice qx nx kx,.bool by1,.slice qy ny ky]),(14,.agg #[.bool bx,.slice qx nx kx,.bool by1,.slice qy ny ky]),(15,.agg #[.bool (ng z1),.slice p1 n1 c1,.bool (ng z2),.slice p2 n2 c2]),(16,.pointer (some ⟨g2,0,none⟩)),(17,.pointer (some ⟨g2,1,none⟩)),(18,.slice p1 n1 c1),(19,.int .i64 ((blen z1.natAbs:Nat):Int)),(20,.pointer (some ⟨g2,2,none⟩)),(21,.pointer (some ⟨g2,3,none⟩)),(22,.slice p2 n2 c2),(23,.int .i64 ((blen z2.natAbs:Nat):Int)),(24,.agg #[.int .i64 ((blen z1.natAbs:Nat):Int),.int .i64 ((blen z2.natAbs:Nat):Int)]),(25,.int .i64 (jj:Int))]) ∧ Sep w [.rowm p1 n1 c1 (lim z1.natAbs),.rowm p2 n2 c2 (lim z2.natAbs),.blk g2 [.bool (ng z1),.slice p1 n1 c1,.bool (ng z2),.slice p2 n2 c2] 43] w' ∧ (jj ≤ 2) ∧ (hj = hst hh (blen z1.natAbs) (blen z2.natAbs) jj)) (fun jj => 2 - jj) (0) ⟨_,_,aSs ⟨rfl,rfl,rfl,rfl,rfl,rfl,rfl,rfl,rfl,rfl,rfl,rfl,rfl,rfl,rfl,rfl,rfl,rfl,rfl,rfl,rfl,trivial⟩,hS,by omega,rfl⟩ ?_
  clear hS; rintro jj _ w8 ⟨fb,hj,rfl,hS,hjj,hje⟩
  refine wsr ?_
  by_cases hlj:jj < 2
  ·
   refine wbc rfl rfl (bLs (decide_eq_true (by omega))) ?_
   refine wn1 (wSq ?_)
   refine wT (ev rfl rfl) ?_
   refine wk2 ?_
   by_cases hj0:jj = 0
   ·
    refine wl rfl (oidx (cs:=[.int .i64 ((blen z1.natAbs:Nat):Int),.int .i64 ((blen z2.natAbs:Nat):Int)]) (k:=jj) (v:=.int .i64 ((blen z1.natAbs:Nat):Int)) rfl rfl Tryz.runUnderlying158 Tryz.sizeOf3 Tryz.isAgg3 (ev rfl rfl) (ev rfl rfl) ((by obtain rfl:jj = 0:=(by omega); rfl)) (by omega) ?_)
    refine wav rfl rfl ?_
    refine wn2 (wmv rfl rfl ?_)
    refine wmv rfl rfl ?_
    by_cases hgt1:hj < blen z1.natAbs
    ·
     refine wbt rfl rfl rfl rfl (bin_gtr (decide_eq_true (by omega))) ?_
     refine wn1 ?_
     refine wT (ev rfl rfl) ?_
     refine wreg (wmv rfl rfl ?_)
     refine wav rfl rfl ?_
     refine wnil (blkN (tNo (wreg (wbc (z:=.int .i64 ((jj + 1:Nat):Int)) rfl rfl (bAd (wrap_succ (by omega))) ?_))))
     refine wmv rfl rfl ?_
     refine wn1 ?_
     exact ⟨(jj + 1),⟨_,_,aSs ⟨rfl,rfl,rfl,rfl,rfl,rfl,rfl,rfl,rfl,rfl,rfl,rfl,rfl,rfl,rfl,rfl,rfl,rfl,rfl,rfl,rfl,trivial⟩,hS.pick [0,1,2] (by decide) rfl,by omega,(by obtain rfl:jj = 0:=(by omega); simp only [hst] at *; omega)⟩,by omega⟩
    refine wbt rfl rfl rfl rfl (bin_gtr (decide_eq_false (by omega))) ?_
    refine wn1 ?_
    refine wF (ev rfl rfl) ?_
    refine wSk (blkN (tNo (wreg (wbc (z:=.int .i64 ((jj + 1:Nat):Int)) rfl rfl (bAd (wrap_succ (by omega))) ?_))))
    refine wmv rfl rfl ?_
    refine wn1 ?_
    exact ⟨(jj + 1),⟨_,_,aSs ⟨rfl,rfl,rfl,rfl,rfl,rfl,rfl,rfl,rfl,rfl,rfl,rfl,rfl,rfl,rfl,rfl,rfl,rfl,rfl,rfl,rfl,trivial⟩,hS.pick [0,1,2] (by decide) rfl,by omega,(by obtain rfl:jj = 0:=(by omega); simp only [hst] at *; omega)⟩,by omega⟩
   refine wl rfl (oidx (cs:=[.int .i64 ((blen z1.natAbs:Nat):Int),.int .i64 ((blen z2.natAbs:Nat):Int)]) (k:=jj) (v:=.int .i64 ((blen z2.natAbs:Nat):Int)) rfl rfl Tryz.runUnderlying158 Tryz.sizeOf3 Tryz.isAgg3 (ev rfl rfl) (ev rfl rfl) ((by obtain rfl:jj = 1:=(by omega); rfl)) (by omega) ?_)
   refine wav rfl rfl ?_
   refine wn2 (wmv rfl rfl ?_)
   refine wmv rfl rfl ?_
   by_cases hgt1:hj < blen z2.natAbs
   ·
    refine wbt rfl rfl rfl rfl (bin_gtr (decide_eq_true (by omega))) ?_
    refine wn1 ?_
    refine wT (ev rfl rfl) ?_
    refine wreg (wmv rfl rfl ?_)
    refine wav rfl rfl ?_
    refine wnil (blkN (tNo (wreg (wbc (z:=.int .i64 ((jj + 1:Nat):Int)) rfl rfl (bAd (wrap_succ (by omega))) ?_))))
    refine wmv rfl rfl ?_
    refine wn1 ?_
    exact ⟨(jj + 1),⟨_,_,aSs ⟨rfl,rfl,rfl,rfl,rfl,rfl,rfl,rfl,rfl,rfl,rfl,rfl,rfl,rfl,rfl,rfl,rfl,rfl,rfl,rfl,rfl,trivial⟩,hS.pick [0,1,2] (by decide) rfl,by omega,(by obtain rfl:jj = 1:=(by omega); simp only [hst] at *; omega)⟩,by omega⟩
   refine wbt rfl rfl rfl rfl (bin_gtr (decide_eq_false (by omega))) ?_
   refine wn1 ?_
   refine wF (ev rfl rfl) ?_
   refine wSk (blkN (tNo (wreg (wbc (z:=.int .i64 ((jj + 1:Nat):Int)) rfl rfl (bAd (wrap_succ (by omega))) ?_))))
   refine wmv rfl rfl ?_
   refine wn1 ?_
   exact ⟨(jj + 1),⟨_,_,aSs ⟨rfl,rfl,rfl,rfl,rfl,rfl,rfl,rfl,rfl,rfl,rfl,rfl,rfl,rfl,rfl,rfl,rfl,rfl,rfl,rfl,rfl,trivial⟩,hS.pick [0,1,2] (by decide) rfl,by omega,(by obtain rfl:jj = 1:=(by omega); simp only [hst] at *; omega)⟩,by omega⟩
  refine wbc rfl rfl (bLs (decide_eq_false (by omega))) ?_
  refine wn1 (wSq ?_)
  refine wF (ev rfl rfl) ?_
  refine wEx ?_
  refine tEx ?_
  refine tEx ?_
  refine blkE ?_
  refine blkN (tNo (wreg (wbc (z:=.int .i64 ((i + 1:Nat):Int)) rfl rfl (bAd (wrap_succ (by have:=hl.2.1; omega))) ?_)))
  refine wmv rfl rfl ?_
  refine wn1 ?_
  exact ⟨(i + 1),⟨_,_,aSs ⟨rfl,rfl,rfl,rfl,rfl,trivial⟩,hS.pick [] (by decide) rfl,by omega,(by obtain rfl:jj = 2:=(by omega); rw [hgt_succ (e:=(RN e1.1 e1.2,RD e1.1 e1.2)) (by unfold lows; rw [List.getElem?_map,hle]; rfl),hje, ← hz1.out, ← hz2.out, ← hhe]; rfl)⟩,by omega⟩
 refine wbt rfl rfl rfl rfl (bLs (decide_eq_false (by omega))) ?_
 refine wn1 (wSq ?_)
 refine wF (ev rfl rfl) ?_
 refine wEx ?_
 refine tEx ?_
 refine tEx ?_
 refine blkE ?_
 refine tNo (wsr (wmv rfl rfl ?_))
 refine wav rfl rfl ?_
 refine wn1 ?_
 refine wLv ?_
 refine wr1 Tryz.results104 (tlT (v:=.int .i64 (hh:Int)) rfl rfl) ?_
 obtain rfl:i = m:=by omega
 subst hhe
 exact ⟨_,_,rfl,isI,hS.new0⟩
open Go.RowKit
section
variable {P:Program} {o:Oper} {n:Nat} {f:Nat → Value} {w w0:World} {R:List Res} {K:Act → World → Prop} {Q:Exit → Act → World → Prop} {d:Nat}
theorem omakeFunc {F:FuncId} {xs:Array Operand} {cs:Array Value} (hop:o.op = .makeFunc (.func F) #[] xs) (ho:o.dst = some d) (hx:xs.map (act n f).eval = cs) (hK:K (act n (upd f d (.func (.func F) #[] cs))) w):OW P o (act n f) w K Q :=
  oval ho (by simp [execOp,hop,hx,Instr.makeFunc]) rfl hK
theorem wjoin {x y:Code} {a:Act} {I:Act → World → Prop} (hx:CW P x (Exit.then I Q) a w) (hy:∀ a w,I a w → CW P y Q a w):CW P (Code.seq x y) Q a w :=
  wSq ⟨Code.wp_mono (fun e a w q => by cases e <;> first | exact hy _ _ q | exact q) hx.out⟩
end
end Go.Proofs.YtnlnibngpeempaaGreatDoor
