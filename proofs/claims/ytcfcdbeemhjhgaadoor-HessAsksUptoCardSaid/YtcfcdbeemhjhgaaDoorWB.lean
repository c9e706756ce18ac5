/-
  Contracts and lemmas, joined in one text.
-/
import Derived.Test.YtcfcdbeemhjhgaaDoorWA
import Derived.RangeFuncLeaves
import Derived.RangeFuncSeq
import Derived.RangeFuncCalls
import Derived.RangeFuncRecord
import Derived.TacticsIn
set_option linter.unusedVariables false
set_option linter.unusedSimpArgs false
/-
  A region that draws its order,where one that may come late waits for another that may.
-/
namespace Go.Proofs.YtcfcdbeemhjhgaaDoor
open Go.RowKit
def stageP (ops:Array Oper) (ds:List Nat) (nd sr:List (List Nat)) (pu:List Nat) (m:Nat):Bool :=
 ds.length == m && Nat.ble m ops.size && decide ds.Nodup &&
 ((List.range m).all fun i => match ops[i]? with
  | some o => o.dst == ds[i]? && ((nd.getD i []).all fun k => (needs o).contains k || (needs o).any fun j => (nd.getD j []).contains k) && decide (nd.getD i []).Nodup && ((sr.getD i []).all fun j => (nd.getD i []).contains j && Nat.blt j i) && ((nd.getD i []).all fun j => Nat.blt j i) && (needs o).all fun j => Nat.blt j i
  | none => false) &&
 ((List.range ops.size).all fun j => Nat.blt j m || match ops[j]? with
  | some o => ((needs o).any fun k => Nat.ble m k) || (List.range m).all fun i => pu.contains i || (needs o).contains i || (needs o).any fun j => (nd.getD j []).contains i
  | none => true) &&
 (pu.all fun i => match ops[i]? with
  | some o => (List.range ops.size).all fun j => j == i || (Nat.blt j m && !pu.contains j) || match ops[j]? with
   | some oj => (needs oj).contains i || (needs o).contains j || o.apart ops oj
   | none => true
  | none => true)
section
variable {P:Program} {ops:Array Oper} {n:Nat} {w0:World} {Q:Exit → Act → World → Prop}
end
theorem run_field_agg {P:Program} {s:TypeId} {i sz:Nat} {cs vs:List Value} {fs:Array Field} {fd:Field} (hu:∀ w,(underlying s).run P w = .ok (.struct fs) w) (hf:fs[i]? = some fd) (hA:Agg P fd.type sz) (hv:(cs.drop fd.offset).take sz = vs) (w:World):(Instr.field s (.agg cs.toArray) i).run P w = .ok (.agg vs.toArray) w:=by
  subst hv
  simp [Instr.field,hu,hf,asAgg,Go.part,hA.isAgg,hA.size,List.extract_toArray,List.extract]
open Go.RowKit
def Res.obj (g:Nat) (o:Obj):Res where
  own:=true
  arg:=false
  foot k:=k = g
  holds w:=w.heap[g]? = some o
  lt w h k hk:=by subst hk; exact (Array.getElem?_eq_some_iff.1 h).1
  stays w w' he h:=(he g rfl).trans h
def Fz (r:Option Nat):Fence := { fn:=fun _ => True,depth:=none,alive:=false,round:=r }
def noDefer (o:Oper):Bool:=match o.op with
  | .defer _ => false
  | _ => true
structure LR (r:Option Nat) (m:Nat) (P:Program) (ops:Array Oper) (Q:Exit → Act → World → Prop) (l:List Oper) (a:Act) (w:World):Prop where
  out:wpListIn (Fz r) m P ops Q l a w
structure CR (r:Option Nat) (m:Nat) (P:Program) (c:Code) (Q:Exit → Act → World → Prop) (a:Act) (w:World):Prop where
  out:c.wpIn (Fz r) m P Q a w
section
variable {P:Program} {r:Option Nat} {m n:Nat} {Q:Exit → Act → World → Prop} {a:Act} {w:World} {f:Nat → Value} {o:Oper} {K:Act → World → Prop} {d:Nat}
theorem calls_z {F:FuncId} {args:Array Value} {R:Ending → World → Prop}:CallsIn (Fz r) m P F args w R ↔ Calls P F args w R :=
  (show CallsIn Fence.wide m P F args w R ↔ Calls P F args w R from callsIn_wide)
theorem rows_z {row:String} {args:Array Value} {R:Value → World → Prop} (h:Rows P row args w R):RowsIn (Fz r) m P row args w R:=fun c cs _ => by
  obtain ⟨v,w',hr,hs⟩:=h c cs
  exact ⟨v,w',hr,stepsIn_wide.2 hs⟩
theorem OW.inn (hd:noDefer o = true) (h:OW P o a w K Q):o.wpIn (Fz r) m P a w K Q:=by
 refine ⟨fun _ _ => trivial,?_⟩
 rw [Oper.semAt_eq _ _ _ (fun c hc => by unfold noDefer at hd; rw [hc] at hd; cases hd)]
 have h:=h.out
 unfold Oper.wp at h
 generalize (execOp a.eval o).run P w = x at h ⊢
 cases x with
 | ok nx w' =>
  cases nx with
  | value v => exact h
  | skip => exact h
  | defer d => exact h
  | enter F args => exact ⟨(fun h0 => by cases h0),calls_z.2 h⟩
  | row row args => exact ⟨(fun h0 => by cases h0),rows_z h⟩
  | _ => exact h.elim
 | halt s w' =>
  cases s with
  | panic v => exact h
  | _ => exact h.elim
theorem rl {ops:Array Oper} {rest:List Oper} (hg:o.guard = none) (hd:noDefer o = true) (h:OW P o a w (fun a' w' => LR r m P ops Q rest a' w') Q):LR r m P ops Q (o :: rest) a w:=by
  refine ⟨?_⟩
  have hw:Region.wanted o (yielded ops a.tmps) = true:=by simp [Region.wanted,hg]
  simp only [wpListIn,hw,if_true]
  exact OW.inn hd (h.mono fun a w h => h.out)
end
def YieldOk {α : Type} (P:Program) (w0:World) (T : α → Tell) (xs:List α) (l:Nat) (I Ix:List α → List Res → Prop):Prop :=
 ∀ (m:Nat) (pre:List α) (x : α) (v:Value) (r Rf Rc:List Res) (W:World),pre ++ [x] <+: xs → I pre Rc → T x v r → Sep w0 (r ++ (Rf ++ Rc)) W →
  YieldAt (Fz none) m P l #[v] W fun e W' => (e = .returned (.bool true) ∧ ∃ Rc',I (pre ++ [x]) Rc' ∧ Sep w0 (Rf ++ Rc') W') ∨ (e = .returned (.bool false) ∧ ∃ Rc',Ix (pre ++ [x]) Rc' ∧ Sep w0 (Rf ++ Rc') W')
def Iter {α : Type} (P:Program) (gf:FuncId) (lb:Array Value) (T : α → Tell) (xs:List α) (w0:World) (R:List Res):Prop :=
 ∀ (l:Nat) (I Ix:List α → List Res → Prop) (Rc:List Res) (W:World),YieldOk P w0 T xs l I Ix → I [] Rc → Sep w0 (R ++ Rc) W →
  Calls P gf (#[.func (.yield l) #[] #[]] ++ lb) W fun e W' => (∃ v,e = .returned v) ∧ ((∃ Rc',I xs Rc' ∧ Sep w0 Rc' W') ∨ ∃ pre Rc',pre <+: xs ∧ Ix pre Rc' ∧ Sep w0 Rc' W')
def roundEnd {α : Type} (w0:World) (I:List α → List Res → Prop) (Ix:Code → List α → List Res → Prop) (Rf:List Res) (xs:List α):Exit → Act → World → Prop
  | .normal,_,W => ∃ Rc,I xs Rc ∧ Sep w0 (Rf ++ Rc) W
  | .ret,_,W => ∃ Rc,Ix .ret xs Rc ∧ Sep w0 (Rf ++ Rc) W
  | .exit i,_,W => ∃ Rc,Ix (.exit i) xs Rc ∧ Sep w0 (Rf ++ Rc) W
  | .goto t,_,W => ∃ Rc,Ix (.goto t) xs Rc ∧ Sep w0 (Rf ++ Rc) W
  | _,_,_ => False
def marked (D:Nat) (a:Act):Act := { a with defers := { target:=.collected D,args:=#[] } :: a.defers }
section
variable {P:Program} {n:Nat} {Q:Exit → Act → World → Prop} {w w0:World} {f:Nat → Value}
end
open Go.RowKit
section
variable {P:Program} {n D d:Nat} {Q:Exit → Act → World → Prop} {w w0:World} {f:Nat → Value} {o:Oper} {R:List Res}
structure LM (D n:Nat) (P:Program) (ops:Array Oper) (Q:Exit → Act → World → Prop) (l:List Oper) (a:Act) (w:World):Prop where
  out:∃ f',a = act n f' ∧ LW P ops Q l (marked D (act n f')) w
def postM (P:Program) (fn:Func) (R:Ending → World → Prop):Exit → Act → World → Prop
  | .panic chain,a,w => a.defers = [] ∧ R (.panicked chain) w
  | e,a,w => bodyPostM Fence.wide 0 P fn R e a w
theorem wret0 {fn:Func} {E:Ending → World → Prop} (hr:fn.results = #[]) (h:E (.returned (.tuple #[])) w):bodyPost P fn E .ret (act n f) w:=by
  refine wret hr ?_ h
  simp
theorem wret0n {fn:Func} {E:Ending → World → Prop} (hr:fn.results = #[]) (h:E (.returned (.tuple #[])) w):bodyPost P fn E .normal (act n f) w :=
  (wret0 hr h:bodyPost P fn E .ret (act n f) w)
end
open Go.RowKit
theorem Sep.pickT {w0 w:World} {T:List Res} (R S:List Res) (h:Sep w0 (R ++ T) w) (ks:List Nat) (hn:ks.Nodup) (he:ks.map (fun k => R[k]?) = S.map some):Sep w0 (S ++ T) w:=by
 refine h.pick (ks ++ List.range' R.length T.length) ?_ ?_
 ·have hlt:∀ k ∈ ks,k < R.length:=fun k hk => by
   have:R[k]? ∈ S.map some:=by rw [← he]; exact List.mem_map.2 ⟨k,hk,rfl⟩
   obtain ⟨s,_,hs⟩:=List.mem_map.1 this
   exact (List.getElem?_eq_some_iff.1 hs.symm).1
  refine List.nodup_append.2 ⟨hn,List.nodup_range',fun a ha b hb e => ?_⟩
  subst e
  have:=hlt a ha
  rw [List.mem_range'_1] at hb
  omega
 rw [List.map_append,List.map_append]
 congr 1
 ·rw [← he]
  refine List.map_congr_left fun k hk => ?_
  have:R[k]? ∈ S.map some:=by rw [← he]; exact List.mem_map.2 ⟨k,hk,rfl⟩
  obtain ⟨s,_,hs⟩:=List.mem_map.1 this
  exact List.getElem?_append_left (List.getElem?_eq_some_iff.1 hs.symm).1
 apply List.ext_getElem?
 intro i
 rw [List.getElem?_map,List.getElem?_map]
 by_cases hi:i < T.length
 ·rw [List.getElem?_range' hi,Option.map_some,List.getElem?_append_right (by omega)]
  simp [hi]
 rw [List.getElem?_eq_none (by simpa using hi),List.getElem?_eq_none (by omega)]; rfl
theorem Sep.behind {w0 w:World} {T:List Res} (R:List Res) (h:Sep w0 (R ++ T) w):Sep w0 T w:=h.sub (List.sublist_append_right R T)
theorem Sep.front1 {w0 w:World} {R S r:List Res} (h:Sep w0 (R ++ (r ++ S)) w):Sep w0 (r ++ (R ++ S)) w:=h.perm (by
  rw [← List.append_assoc, ← List.append_assoc]
  exact List.Perm.append_right S List.perm_append_comm)
theorem Sep.front2 {w0 w:World} {R S r0 r1:List Res} (h:Sep w0 (R ++ (r0 ++ (r1 ++ S))) w):Sep w0 (r0 ++ (r1 ++ (R ++ S))) w:=by
  have e:r0 ++ (r1 ++ S) = (r0 ++ r1) ++ S:=by simp
  rw [e] at h
  have:=Sep.front1 h
  simpa using this
theorem Sep.front3 {w0 w:World} {R S r0 r1 r2:List Res} (h:Sep w0 (R ++ (r0 ++ (r1 ++ (r2 ++ S)))) w):Sep w0 (r0 ++ (r1 ++ (r2 ++ (R ++ S)))) w:=by
  have e:r0 ++ (r1 ++ (r2 ++ S)) = (r0 ++ r1 ++ r2) ++ S:=by simp
  rw [e] at h
  have:=Sep.front1 h
  simpa using this
open Go.RowKit
section
variable {P:Program} {r:Option Nat} {m n D d:Nat} {Q:Exit → Act → World → Prop} {a:Act} {w w0:World} {f:Nat → Value} {o:Oper}
end
theorem box_cells {w:World} {g:Nat} {cs:List Value} {t:TypeId} (h:w.heap[g]? = some (.cells cs.toArray t)):∀ j v,cs[j]? = some v → w.cell? ⟨g,0 + j,none⟩ = some v:=fun j v hj => by
  rw [Nat.zero_add]; exact (blk_cell h j).trans hj
def Nm (xs:List Nat):Tell:=fun v r => ∃ p n c,v = .slice p n c ∧ r = [.rowm p n c xs]
theorem RetN.m {w:World} {xs:List Nat} (e:Ending) (w':World) (h:RetN w xs e w'):Ret (Nm xs) w e w':=by
  obtain ⟨v,r,rfl,⟨p,n,c,rfl,rfl⟩,hN⟩:=RetN.u e w' h
  refine ⟨_,_,rfl,⟨p,n,c,rfl,rfl⟩,New.rowm hN.below ?_⟩
  have hf:Fr 0 w' p n c xs:=hN.holds _ List.mem_cons_self
  exact hf.raise (fun g hg => hN.high _ List.mem_cons_self g hg)
end Go.Proofs.YtcfcdbeemhjhgaaDoor
