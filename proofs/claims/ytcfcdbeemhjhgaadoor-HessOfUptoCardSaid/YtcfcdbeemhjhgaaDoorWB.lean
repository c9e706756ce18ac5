/-
  Contracts and lemmas, joined in one text.
-/
import Derived.Test.YtcfcdbeemhjhgaaDoorWA
import Derived.RangeFuncLeaves
import Derived.RangeFuncSeq
import Derived.RangeFuncCalls
import Derived.RangeFuncRecord
import Derived.TacticsIn
set_option linter.unusedVariables false
set_option linter.unusedSimpArgs false
/-
  A region that draws its order,where one that may come late waits for another that may.
-/
namespace Go.Proofs.YtcfcdbeemhjhgaaDoor
open Go.RowKit
def stageP (ops:Array Oper) (ds:List Nat) (nd sr:List (List Nat)) (pu:List Nat) (m:Nat):Bool :=
 ds.length == m && Nat.ble m ops.size && decide ds.Nodup &&
 ((List.range m).all fun i => match ops[i]? with
  | some o => o.dst == ds[i]? && ((nd.getD i []).all fun k => (needs o).contains k || (needs o).any fun j => (nd.getD j []).contains k) && decide (nd.getD i []).Nodup && ((sr.getD i []).all fun j => (nd.getD i []).contains j && Nat.blt j i) && ((nd.getD i []).all fun j => Nat.blt j i) && (needs o).all fun j => Nat.blt j i
  | none => false) &&
 ((List.range ops.size).all fun j => Nat.blt j m || match ops[j]? with
  | some o => ((needs o).any fun k => Nat.ble m k) || (List.range m).all fun i => pu.contains i || (needs o).contains i || (needs o).any fun j => (nd.getD j []).contains i
  | none => true) &&
 (pu.all fun i => match ops[i]? with
  | some o => (List.range ops.size).all fun j => j == i || (Nat.blt j m && !pu.contains j) || match ops[j]? with
   | some oj => (needs oj).contains i || (needs o).contains j || o.apart ops oj
   | none => true
  | none => true)
section
variable {P:Program} {ops:Array Oper} {n:Nat} {w0:World} {Q:Exit → Act → World → Prop}
end
end Go.Proofs.YtcfcdbeemhjhgaaDoor
/-
  A range over a function: the iterator's contract and the caller's law,over what a call owns (Sep).
-/
namespace Go.Proofs.YtcfcdbeemhjhgaaDoor
open Go.RowKit
def Res.obj (g:Nat) (o:Obj):Res where
  own:=true
  arg:=false
  foot k:=k = g
  holds w:=w.heap[g]? = some o
  lt w h k hk:=by subst hk; exact (Array.getElem?_eq_some_iff.1 h).1
  stays w w' he h:=(he g rfl).trans h
def Fz (r:Option Nat):Fence := { fn:=fun _ => True,depth:=none,alive:=false,round:=r }
def noDefer (o:Oper):Bool:=match o.op with
  | .defer _ => false
  | _ => true
structure LR (r:Option Nat) (m:Nat) (P:Program) (ops:Array Oper) (Q:Exit → Act → World → Prop) (l:List Oper) (a:Act) (w:World):Prop where
  out:wpListIn (Fz r) m P ops Q l a w
structure CR (r:Option Nat) (m:Nat) (P:Program) (c:Code) (Q:Exit → Act → World → Prop) (a:Act) (w:World):Prop where
  out:c.wpIn (Fz r) m P Q a w
section
variable {P:Program} {r:Option Nat} {m n:Nat} {Q:Exit → Act → World → Prop} {a:Act} {w:World} {f:Nat → Value} {o:Oper} {K:Act → World → Prop} {d:Nat}
theorem calls_z {F:FuncId} {args:Array Value} {R:Ending → World → Prop}:CallsIn (Fz r) m P F args w R ↔ Calls P F args w R :=
  (show CallsIn Fence.wide m P F args w R ↔ Calls P F args w R from callsIn_wide)
theorem rows_z {row:String} {args:Array Value} {R:Value → World → Prop} (h:Rows P row args w R):RowsIn (Fz r) m P row args w R:=fun c cs _ => by
  obtain ⟨v,w',hr,hs⟩:=h c cs
  exact ⟨v,w',hr,stepsIn_wide.2 hs⟩
theorem OW.inn (hd:noDefer o = true) (h:OW P o a w K Q):o.wpIn (Fz r) m P a w K Q:=by
 refine ⟨fun _ _ => trivial,?_⟩
 rw [Oper.semAt_eq _ _ _ (fun c hc => by unfold noDefer at hd; rw [hc] at hd; cases hd)]
 have h:=h.out
 unfold Oper.wp at h
 generalize (execOp a.eval o).run P w = x at h ⊢
 cases x with
 | ok nx w' =>
  cases nx with
  | value v => exact h
  | skip => exact h
  | defer d => exact h
  | enter F args => exact ⟨(fun h0 => by cases h0),calls_z.2 h⟩
  | row row args => exact ⟨(fun h0 => by cases h0),rows_z h⟩
  | _ => exact h.elim
 | halt s w' =>
  cases s with
  | panic v => exact h
  | _ => exact h.elim
theorem rl {ops:Array Oper} {rest:List Oper} (hg:o.guard = none) (hd:noDefer o = true) (h:OW P o a w (fun a' w' => LR r m P ops Q rest a' w') Q):LR r m P ops Q (o :: rest) a w:=by
  refine ⟨?_⟩
  have hw:Region.wanted o (yielded ops a.tmps) = true:=by simp [Region.wanted,hg]
  simp only [wpListIn,hw,if_true]
  exact OW.inn hd (h.mono fun a w h => h.out)
end
def YieldOk {α : Type} (P:Program) (w0:World) (T : α → Tell) (xs:List α) (l:Nat) (I Ix:List α → List Res → Prop):Prop :=
 ∀ (m:Nat) (pre:List α) (x : α) (v:Value) (r Rf Rc:List Res) (W:World),pre ++ [x] <+: xs → I pre Rc → T x v r → Sep w0 (r ++ (Rf ++ Rc)) W →
  YieldAt (Fz none) m P l #[v] W fun e W' => (e = .returned (.bool true) ∧ ∃ Rc',I (pre ++ [x]) Rc' ∧ Sep w0 (Rf ++ Rc') W') ∨ (e = .returned (.bool false) ∧ ∃ Rc',Ix (pre ++ [x]) Rc' ∧ Sep w0 (Rf ++ Rc') W')
def Iter {α : Type} (P:Program) (gf:FuncId) (lb:Array Value) (T : α → Tell) (xs:List α) (w0:World) (R:List Res):Prop :=
 ∀ (l:Nat) (I Ix:List α → List Res → Prop) (Rc:List Res) (W:World),YieldOk P w0 T xs l I Ix → I [] Rc → Sep w0 (R ++ Rc) W →
  Calls P gf (#[.func (.yield l) #[] #[]] ++ lb) W fun e W' => (∃ v,e = .returned v) ∧ ((∃ Rc',I xs Rc' ∧ Sep w0 Rc' W') ∨ ∃ pre Rc',pre <+: xs ∧ Ix pre Rc' ∧ Sep w0 Rc' W')
def roundEnd {α : Type} (w0:World) (I:List α → List Res → Prop) (Ix:Code → List α → List Res → Prop) (Rf:List Res) (xs:List α):Exit → Act → World → Prop
  | .normal,_,W => ∃ Rc,I xs Rc ∧ Sep w0 (Rf ++ Rc) W
  | .ret,_,W => ∃ Rc,Ix .ret xs Rc ∧ Sep w0 (Rf ++ Rc) W
  | .exit i,_,W => ∃ Rc,Ix (.exit i) xs Rc ∧ Sep w0 (Rf ++ Rc) W
  | .goto t,_,W => ∃ Rc,Ix (.goto t) xs Rc ∧ Sep w0 (Rf ++ Rc) W
  | _,_,_ => False
def marked (D:Nat) (a:Act):Act := { a with defers := { target:=.collected D,args:=#[] } :: a.defers }
section
variable {P:Program} {n:Nat} {Q:Exit → Act → World → Prop} {w w0:World} {f:Nat → Value}
end
end Go.Proofs.YtcfcdbeemhjhgaaDoor
/-
  Behind a range over a function: a frame with its mark; a function that holds such a range; one that hands nothing back.
-/
namespace Go.Proofs.YtcfcdbeemhjhgaaDoor
open Go.RowKit
section
variable {P:Program} {n D d:Nat} {Q:Exit → Act → World → Prop} {w w0:World} {f:Nat → Value} {o:Oper} {R:List Res}
theorem put_mark (a:Act) (x:Option Tmp) (v:Value):(marked D a).put x v = marked D (a.put x v):=by cases x <;> rfl
theorem OW.mark {N K:Act → World → Prop} (hN:∀ a w,N a w → ∃ f',a = act n f' ∧ K (marked D (act n f')) w) (h:OW P o (act n f) w N (fun e a w => Q e (marked D a) w)):OW P o (marked D (act n f)) w K Q:=by
 refine ⟨?_⟩
 have h:=h.out
 unfold Oper.wp at h ⊢
 have e:execOp (marked D (act n f)).eval o = execOp (act n f).eval o:=rfl
 rw [e]
 have key:∀ (x:Option Tmp) (v:Value) (w':World),N ((act n f).put x v) w' → K ((marked D (act n f)).put x v) w':=fun x v w' h => by
  obtain ⟨f',e,hk⟩:=hN _ _ h
  rw [put_mark,e]; exact hk
 generalize (execOp (act n f).eval o).run P w = x at h ⊢
 cases x with
 | ok nx w' =>
  cases nx with
  | value v => exact key _ _ _ h
  | skip => exact key _ _ _ h
  | defer dd =>
   exfalso
   obtain ⟨f',e,_⟩:=hN _ _ h
   have:=congrArg Act.defers e
   cases hd:o.dst with
   | none => rw [hd] at this; cases this
   | some t => rw [hd] at this; cases this
  | enter F args =>
   refine Calls.mono h fun e w'' h => ?_
   cases e with
   | returned v => exact key _ _ _ h
   | panicked c => exact h
   | outgrown =>
    obtain ⟨a,w1,hq⟩:=h
    exact ⟨_,w1,hq⟩
  | row row args => exact Rows.mono h fun v w'' h => key _ _ _ h
  | _ => exact h.elim
 | halt s w' =>
  cases s with
  | panic v => exact h
  | _ => exact h.elim
structure LM (D n:Nat) (P:Program) (ops:Array Oper) (Q:Exit → Act → World → Prop) (l:List Oper) (a:Act) (w:World):Prop where
  out:∃ f',a = act n f' ∧ LW P ops Q l (marked D (act n f')) w
def postM (P:Program) (fn:Func) (R:Ending → World → Prop):Exit → Act → World → Prop
  | .panic chain,a,w => a.defers = [] ∧ R (.panicked chain) w
  | e,a,w => bodyPostM Fence.wide 0 P fn R e a w
end
end Go.Proofs.YtcfcdbeemhjhgaaDoor
/-
  Lists of what a call owns with an unknown rest behind.
-/
namespace Go.Proofs.YtcfcdbeemhjhgaaDoor
open Go.RowKit
theorem Sep.behind {w0 w:World} {T:List Res} (R:List Res) (h:Sep w0 (R ++ T) w):Sep w0 T w:=h.sub (List.sublist_append_right R T)
end Go.Proofs.YtcfcdbeemhjhgaaDoor
/-
  Rounds of a range over a function,more: guarded operations,loops; loops behind a mark.
-/
namespace Go.Proofs.YtcfcdbeemhjhgaaDoor
open Go.RowKit
section
variable {P:Program} {r:Option Nat} {m n D d:Nat} {Q:Exit → Act → World → Prop} {a:Act} {w w0:World} {f:Nat → Value} {o:Oper}
end
theorem box_cells {w:World} {g:Nat} {cs:List Value} {t:TypeId} (h:w.heap[g]? = some (.cells cs.toArray t)):∀ j v,cs[j]? = some v → w.cell? ⟨g,0 + j,none⟩ = some v:=fun j v hj => by
  rw [Nat.zero_add]; exact (blk_cell h j).trans hj
def Nm (xs:List Nat):Tell:=fun v r => ∃ p n c,v = .slice p n c ∧ r = [.rowm p n c xs]
theorem RetN.m {w:World} {xs:List Nat} (e:Ending) (w':World) (h:RetN w xs e w'):Ret (Nm xs) w e w':=by
  obtain ⟨v,r,rfl,⟨p,n,c,rfl,rfl⟩,hN⟩:=RetN.u e w' h
  refine ⟨_,_,rfl,⟨p,n,c,rfl,rfl⟩,New.rowm hN.below ?_⟩
  have hf:Fr 0 w' p n c xs:=hN.holds _ List.mem_cons_self
  exact hf.raise (fun g hg => hN.high _ List.mem_cons_self g hg)
end Go.Proofs.YtcfcdbeemhjhgaaDoor
