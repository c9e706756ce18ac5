/-
  Contracts and lemmas, joined in one text.
-/
import Derived.Test.YtcfcdbeemhjhgaaDoorWC
set_option linter.unusedVariables false
set_option linter.unusedSimpArgs false
/-
  Fractions: what is told of them; Make and Norm.
-/
set_option maxRecDepth 100000
set_option maxHeartbeats 16000000
namespace Go.Proofs.YtcfcdbeemhjhgaaDoor
open Go.RowKit
def Rrt (x y:Int):Tell:=fun v r => ∃ p n c q m d,v = .agg #[.bool (ng x),.slice p n c,.bool (ng y),.slice q m d] ∧ r = [.rowm p n c (lim x.natAbs),.rowm q m d (lim y.natAbs)]
def RRt (x y:Int) (E:Int):Tell:=fun v r => ∃ p n c q m d,v = .tuple #[.agg #[.bool (ng x),.slice p n c,.bool (ng y),.slice q m d],.int .i64 E] ∧ r = [.rowm p n c (lim x.natAbs),.rowm q m d (lim y.natAbs)]
def ZEm (z:Int) (E:Int):Tell:=fun v r => ∃ p n c,v = .tuple #[.agg #[.bool (ng z),.slice p n c],.int .i64 E] ∧ r = [.rowm p n c (lim z.natAbs)]
def ZBm (z:Int) (E:Bool):Tell:=fun v r => ∃ p n c,v = .tuple #[.agg #[.bool (ng z),.slice p n c],.bool E] ∧ r = [.rowm p n c (lim z.natAbs)]
theorem ZEt.m {z E:Int} {w:World} (e:Ending) (w':World) (h:Ret (ZEt z E) w e w'):Ret (ZEm z E) w e w':=by
  obtain ⟨_,_,rfl,⟨p,n,c,rfl,rfl⟩,hN⟩:=h
  exact ⟨_,_,rfl,⟨p,n,c,rfl,rfl⟩,New.one hN.below (show Fr 0 w' p n c (lim z.natAbs) from hN.holds (.row p n c (lim z.natAbs)) List.mem_cons_self) (fun g hg => hN.high (.row p n c (lim z.natAbs)) List.mem_cons_self g hg)⟩
theorem ZBt.m {z:Int} {E:Bool} {w:World} (e:Ending) (w':World) (h:Ret (ZBt z E) w e w'):Ret (ZBm z E) w e w':=by
  obtain ⟨_,_,rfl,⟨p,n,c,rfl,rfl⟩,hN⟩:=h
  exact ⟨_,_,rfl,⟨p,n,c,rfl,rfl⟩,New.one hN.below (show Fr 0 w' p n c (lim z.natAbs) from hN.holds (.row p n c (lim z.natAbs)) List.mem_cons_self) (fun g hg => hN.high (.row p n c (lim z.natAbs)) List.mem_cons_self g hg)⟩
theorem Wd.rn {x y z:Int} {k:Nat} (hx:Wd x k) (hz:Hid (RN x y = z)):Wd z k:=by
  have hz':=hz.out; subst hz'
  exact hx.abs (RN_abs x y)
theorem Wd.rd {x y z:Int} {k:Nat} (hy:Wd y k) (hz:Hid (RD x y = z)):Wd z k:=by
  have hz':=hz.out; subst hz'
  exact hy.abs (RD_abs x y)
end Go.Proofs.YtcfcdbeemhjhgaaDoor
/-
  Lists of fractions; rat's made.
-/
namespace Go.Proofs.YtcfcdbeemhjhgaaDoor
open Go.RowKit
section
variable {P:Program} {o:Oper} {n:Nat} {f:Nat → Value} {w w0:World} {R:List Res} {K:Act → World → Prop} {Q:Exit → Act → World → Prop} {d:Nat}
end
def Rs (w:World) (p:Option Addr) (m:Nat) (L:List (Int × Int)) (K:Nat):Prop :=
  m = L.length ∧ m ≤ 1048576 ∧ ∀ i e,L[i]? = some e → ∃ g off b q n k b2 q2 n2 k2,p = some ⟨g,off,none⟩ ∧ (∀ j v,[Value.bool b,.slice q n k,.bool b2,.slice q2 n2 k2][j]? = some v → w.cell? ⟨g,off + i * 4 + j,none⟩ = some v) ∧ Zr w b q n k e.1 K ∧ Zr w b2 q2 n2 k2 e.2 K
theorem Rs.on {w w':World} {p:Option Addr} {m K B:Nat} {L:List (Int × Int)} (h:Rs w p m L K) (hb:Below B w w') (hB:w.heap.size ≤ B):Rs w' p m L K:=by
  refine ⟨h.1,h.2.1,fun i z hi => ?_⟩
  obtain ⟨g,off,b,q,n,k,b2,q2,n2,k2,hp,h1,h2,h3⟩:=h.2.2 i z hi
  have hg:g < w.heap.size:=World.block_lt_of_cell? w _ (h1 0 _ rfl)
  have he:=hb.block g (by omega)
  exact ⟨g,off,b,q,n,k,b2,q2,n2,k2,hp,fun j v hj => (World.cell?_of_block (w:=w) he).trans (h1 j v hj),h2.on hb hB,h3.on hb hB⟩
theorem Rs.at {w w':World} {R:List Res} {p:Option Addr} {m K:Nat} {L:List (Int × Int)} (h:Rs w p m L K) (hS:Sep w R w'):Rs w' p m L K:=h.on hS.below (Nat.le_refl _)
theorem Rs.el {w:World} {p:Option Addr} {m K:Nat} {L:List (Int × Int)} (h:Rs w p m L K) {i:Nat} (hi:i < m):∃ e g off b q n k b2 q2 n2 k2,L[i]? = some e ∧ p = some ⟨g,off,none⟩ ∧ (∀ j v,[Value.bool b,.slice q n k,.bool b2,.slice q2 n2 k2][j]? = some v → w.cell? ⟨g,off + i * 4 + j,none⟩ = some v) ∧ Zr w b q n k e.1 K ∧ Zr w b2 q2 n2 k2 e.2 K:=by
  have hi':i < L.length:=by rw [← h.1]; exact hi
  obtain ⟨g,off,b,q,n,k,b2,q2,n2,k2,r⟩:=h.2.2 i L[i] (List.getElem?_eq_getElem hi')
  exact ⟨_,g,off,b,q,n,k,b2,q2,n2,k2,List.getElem?_eq_getElem hi',r⟩
theorem Rs.one {w:World} {g K:Nat} {t:TypeId} {b b2:Bool} {p q:Option Addr} {n m c d:Nat} {x y:Int} (hg:w.heap[g]? = some (.cells [.bool b,.slice p n c,.bool b2,.slice q m d].toArray t)) (hx:Zr w b p n c x K) (hy:Zr w b2 q m d y K):Rs w (some ⟨g,0,none⟩) 1 [(x,y)] K:=by
  refine ⟨rfl,by omega,fun i z hi => ?_⟩
  match i,hi with
  | 0,hi => simp at hi; subst hi; exact ⟨g,0,_,_,_,_,_,_,_,_,rfl,fun j v hj => by simpa using (blk_cell hg j).trans hj,hx,hy⟩
theorem Rs.two {w:World} {g K:Nat} {t:TypeId} {b b2 b3 b4:Bool} {p q p3 p4:Option Addr} {n m c d n3 c3 n4 c4:Nat} {x y x2 y2:Int} (hg:w.heap[g]? = some (.cells [.bool b,.slice p n c,.bool b2,.slice q m d,.bool b3,.slice p3 n3 c3,.bool b4,.slice p4 n4 c4].toArray t)) (hx:Zr w b p n c x K) (hy:Zr w b2 q m d y K) (hx2:Zr w b3 p3 n3 c3 x2 K) (hy2:Zr w b4 p4 n4 c4 y2 K):Rs w (some ⟨g,0,none⟩) 2 [(x,y),(x2,y2)] K:=by
 refine ⟨rfl,by omega,fun i z hi => ?_⟩
 match i,hi with
 | 0,hi =>
  simp at hi; subst hi
  refine ⟨g,0,_,_,_,_,_,_,_,_,rfl,fun j v hj => ?_,hx,hy⟩
  rw [show 0 + 0 * 4 + j = j by omega,blk_cell hg j]
  match j,hj with
  | 0,hj => exact hj
  | 1,hj => exact hj
  | 2,hj => exact hj
  | 3,hj => exact hj
  | j + 4,hj => simp at hj
 | 1,hi =>
  simp at hi; subst hi
  refine ⟨g,0,_,_,_,_,_,_,_,_,rfl,fun j v hj => ?_,hx2,hy2⟩
  rw [show 0 + 1 * 4 + j = j + 4 by omega,blk_cell hg (j + 4)]
  match j,hj with
  | 0,hj => exact hj
  | 1,hj => exact hj
  | 2,hj => exact hj
  | 3,hj => exact hj
  | j + 4,hj => simp at hj
def elR (x:Int) (p:Option Addr) (n c:Nat) (y:Int) (q:Option Addr) (m d:Nat):El:=⟨[.bool (ng x),.slice p n c,.bool (ng y),.slice q m d],[.rowm p n c (lim x.natAbs),.rowm q m d (lim y.natAbs)]⟩
def REls (L:List (Int × Int)) (i:Nat) (es:List El):Prop:=es.length = i ∧ ∀ j e,j < i → L[j]? = some e → e.2 ≠ 0 ∧ ∃ p n c q m d,es[j]? = some (elR (RN e.1 e.2) p n c (RD e.1 e.2) q m d)
theorem REls.app {L:List (Int × Int)} {i:Nat} {es:List El} (h:REls L i es) {e:Int × Int} (hL:L[i]? = some e) (h0:e.2 ≠ 0) (p:Option Addr) (n c:Nat) (q:Option Addr) (m d:Nat):REls L (i + 1) (es ++ [elR (RN e.1 e.2) p n c (RD e.1 e.2) q m d]):=by
 refine ⟨by simp [h.1],fun j e' hj hj' => ?_⟩
 by_cases hij:j = i
 ·subst hij
  rw [hL] at hj'
  obtain rfl:=Option.some.inj hj'
  refine ⟨h0,p,n,c,q,m,d,?_⟩
  rw [List.getElem?_append_right (by rw [h.1]; exact Nat.le_refl _),h.1,Nat.sub_self]
  rfl
 ·obtain ⟨h1,h2⟩:=h.2 j e' (by omega) hj'
  refine ⟨h1,?_⟩
  obtain ⟨p',n',c',q',m',d',h2⟩:=h2
  exact ⟨p',n',c',q',m',d',by rw [List.getElem?_append_left (by rw [h.1]; omega)]; exact h2⟩
def lows (L:List (Int × Int)):List (Int × Int):=L.map fun e => (RN e.1 e.2,RD e.1 e.2)
theorem Sep.rs {w0 w:World} {R:List Res} (hS:Sep w0 R w) (k:Nat) {p:Option Addr} {c m K:Nat} {es:List El} {L:List (Int × Int)} (hk:R[k]? = some (.lst 91 4 p m c es)) (hz:REls L m es) (hL:m = L.length) (hm:m ≤ 1048576) (hK:∀ e ∈ L,Wd e.1 K ∧ Wd e.2 K):Rs w p m (lows L) K:=by
  refine ⟨by rw [lows,List.length_map]; exact hL,hm,fun i e' hi => ?_⟩
  rw [lows,List.getElem?_map] at hi
  rcases hLi:L[i]? with _ | e
  · rw [hLi] at hi; cases hi
  rw [hLi] at hi
  simp only [Option.map_some,Option.some.injEq] at hi
  subst hi
  have hil:=(List.getElem?_eq_some_iff.1 hLi).1
  obtain ⟨h0,p1,n1,c1,q,m1,d,he⟩:=hz.2 i e (by omega) hLi
  obtain ⟨g,hg,hc,hr⟩:=hS.lstCell k hk he (by omega)
  have hf:Fr 0 w p1 n1 c1 (lim (RN e.1 e.2).natAbs):=hr (.rowm p1 n1 c1 (lim (RN e.1 e.2).natAbs)) List.mem_cons_self
  have hf2:Fr 0 w q m1 d (lim (RD e.1 e.2).natAbs):=hr (.rowm q m1 d (lim (RD e.1 e.2).natAbs)) (List.mem_cons_of_mem _ List.mem_cons_self)
  obtain ⟨hk1,hk2⟩:=hK e (List.mem_of_getElem? hLi)
  exact ⟨g,0,_,_,_,_,_,_,_,_,hg,hc,hf.sl.zr (hk1.rn rfl),hf2.sl.zr (hk2.rd rfl)⟩
theorem Rs.wd {w:World} {p:Option Addr} {m K:Nat} {L:List (Int × Int)} (h:Rs w p m L K):∀ e ∈ L,Wd e.1 K ∧ Wd e.2 K:=by
  intro e he
  obtain ⟨i,hi⟩:=List.mem_iff_getElem?.1 he
  obtain ⟨g,off,b,q,n,k,b2,q2,n2,k2,hp,h1,h2,h3⟩:=h.2.2 i e hi
  exact ⟨h2.wd,h3.wd⟩
end Go.Proofs.YtcfcdbeemhjhgaaDoor
