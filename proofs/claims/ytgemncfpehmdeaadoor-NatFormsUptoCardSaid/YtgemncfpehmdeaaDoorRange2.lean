
/-
  Behind a range over a function: a frame with its mark; a function that holds such a range; one that hands nothing back.
-/
import Derived.Test.YtgemncfpehmdeaaDoorRange
set_option linter.unusedVariables false
set_option linter.unusedSimpArgs false
namespace Go.Proofs.YtgemncfpehmdeaaDoor
open Go.RowKit

section
variable {P : Program} {n D d : Nat} {Q : Exit → Act → World → Prop} {w w0 : World} {f : Nat → Value} {o : Oper} {R : List Res}
theorem put_mark (a : Act) (x : Option Tmp) (v : Value) : (marked D a).put x v = marked D (a.put x v) := by cases x <;> rfl
theorem OW.mark {N K : Act → World → Prop} (hN : ∀ a w, N a w → ∃ f', a = act n f' ∧ K (marked D (act n f')) w) (h : OW P o (act n f) w N (fun e a w => Q e (marked D a) w)) : OW P o (marked D (act n f)) w K Q := by
  refine ⟨?_⟩
  have h := h.out
  unfold Oper.wp at h ⊢
  have e : execOp (marked D (act n f)).eval o = execOp (act n f).eval o := rfl
  rw [e]
  have key : ∀ (x : Option Tmp) (v : Value) (w' : World), N ((act n f).put x v) w' → K ((marked D (act n f)).put x v) w' := fun x v w' h => by
    obtain ⟨f', e, hk⟩ := hN _ _ h
    rw [put_mark, e]; exact hk
  generalize (execOp (act n f).eval o).run P w = x at h ⊢
  cases x with
  | ok nx w' =>
    cases nx with
    | value v => exact key _ _ _ h
    | skip => exact key _ _ _ h
    | defer dd =>
      exfalso
      obtain ⟨f', e, _⟩ := hN _ _ h
      have := congrArg Act.defers e
      cases hd : o.dst with
      | none => rw [hd] at this; cases this
      | some t => rw [hd] at this; cases this
    | enter F args =>
      refine Calls.mono h fun e w'' h => ?_
      cases e with
      | returned v => exact key _ _ _ h
      | panicked c => exact h
      | outgrown =>
        obtain ⟨a, w1, hq⟩ := h
        exact ⟨_, w1, hq⟩
    | row row args => exact Rows.mono h fun v w'' h => key _ _ _ h
    | _ => exact h.elim
  | halt s w' =>
    cases s with
    | panic v => exact h
    | _ => exact h.elim
structure LM (D n : Nat) (P : Program) (ops : Array Oper) (Q : Exit → Act → World → Prop) (l : List Oper) (a : Act) (w : World) : Prop where
  out : ∃ f', a = act n f' ∧ LW P ops Q l (marked D (act n f')) w
theorem mreg {id : Nat} {l : List Oper} (h : LM D n P l.toArray Q l (act n f) w) : CW P (Code.region id l.toArray false) Q (marked D (act n f)) w := by
  obtain ⟨f', e, h⟩ := h.out
  rw [e]; exact wreg h
theorem mnil {ops : Array Oper} (h : Q .normal (marked D (act n f)) w) : LM D n P ops Q [] (act n f) w := ⟨f, rfl, wnil h⟩
theorem ml {ops : Array Oper} {rest : List Oper} (hg : o.guard = none) (h : OW P o (act n f) w (fun a' w' => LM D n P ops Q rest a' w') (fun e a w => Q e (marked D a) w)) : LM D n P ops Q (o :: rest) (act n f) w :=
  ⟨f, rfl, wl hg (OW.mark (fun a w h => h.out) h)⟩
theorem mlOn {ops : Array Oper} {rest : List Oper} {g : Nat} {b : Bool} (hg : o.guard = some (g, b)) {e : Nat} (hs : (ops[g]?).bind (·.dst) = some e) (hd : Nat.blt e n = true) (hv : f e = .bool b)
    (h : OW P o (act n f) w (fun a' w' => LM D n P ops Q rest a' w') (fun e a w => Q e (marked D a) w)) : LM D n P ops Q (o :: rest) (act n f) w := by
  refine ⟨f, rfl, ⟨wpList_step fun K hK => ?_⟩⟩
  have hw : Region.wanted o (yielded ops (marked D (act n f)).tmps) = true := want_on hg hs hd hv
  rw [if_pos hw]
  exact Oper.wp_mono (fun a w h => hK a w h.out) (OW.mark (fun a w h => h.out) h).out
theorem mlOff {ops : Array Oper} {rest : List Oper} {g : Nat} {b b' : Bool} (hg : o.guard = some (g, b)) {e : Nat} (hs : (ops[g]?).bind (·.dst) = some e) (hd : Nat.blt e n = true) (hv : f e = .bool b') (hne : (b' == b) = false)
    (ho : o.dst = some d) (h : LM D n P ops Q rest (act n (upd f d undef)) w) : LM D n P ops Q (o :: rest) (act n f) w := by
  obtain ⟨f', e', h⟩ := h.out
  refine ⟨f, rfl, ⟨wpList_step fun K hK => ?_⟩⟩
  have hw : Region.wanted o (yielded ops (marked D (act n f)).tmps) = false := want_off hg hs hd hv hne
  rw [if_neg (by rw [hw]; exact Bool.false_ne_true), ho, put_mark, act_put, e']
  exact hK _ _ h.out
theorem mwT {c : Operand} {x y : Code} (hc : (act n f).eval c = .bool true) (h : CW P x Q (marked D (act n f)) w) : CW P (Code.cond c x y) Q (marked D (act n f)) w := wT hc h
theorem mwF {c : Operand} {x y : Code} (hc : (act n f).eval c = .bool false) (h : CW P y Q (marked D (act n f)) w) : CW P (Code.cond c x y) Q (marked D (act n f)) w := wF hc h
/-- What the body of such a function must achieve; a panic with nothing deferred. -/
def postM (P : Program) (fn : Func) (R : Ending → World → Prop) : Exit → Act → World → Prop
  | .panic chain, a, w => a.defers = [] ∧ R (.panicked chain) w
  | e, a, w => bodyPostM Fence.wide 0 P fn R e a w
theorem postM_m {fn : Func} {R : Ending → World → Prop} {e : Exit} {a : Act} (h : postM P fn R e a w) : bodyPostM Fence.wide 0 P fn R e a w := by
  cases e with
  | panic chain =>
    obtain ⟨h1, h2⟩ := h
    show LeavesInM Fence.wide 0 P fn a.tmps R a.defers (.panicking chain) w
    rw [h1]; exact h2
  | _ => exact h
/-- A function that holds a range over a function. -/
theorem wentM {F : FuncId} {fn : Func} {c : Code} {args : Array Value} {R' : Ending → World → Prop}
    (hf : P.funcs[F]? = some fn) (hb : fn.body = some c) (hn : fn.ntmps = n) (ha : Nat.ble args.size n = true)
    (h : CW P c (postM P fn R') (act n (fun i => args.getD i undef)) w) : Calls P F args w R' := by
  refine (callsIn_wide (n := 0)).1 (callsIn_of_wp_marks (n := 0) hf hb trivial ((wpIn_wide (n := 0)).2 ?_))
  have e : ({ tmps := args ++ Array.replicate (fn.ntmps - args.size) undef, defers := [] } : Act) = act n (fun i => args.getD i undef) := by
    have ha' : args.size ≤ n := Nat.le_of_ble_eq_true ha
    simp only [act, hn]
    congr 1
    apply Array.ext
    · simp; omega
    · intro i h1 h2
      simp at h1 h2
      by_cases hi : i < args.size
      · simp [Array.getElem_append, hi, Array.getD]
      · simp [Array.getElem_append, hi, Array.getD]
  rw [e]; exact wp_mono h.out (fun e a w h => postM_m h)
theorem mret1 {fn : Func} {r : ResultVar} {v : Value} {E : Ending → World → Prop} (hr : fn.results = #[r]) (hS : Sep w0 (.obj D (.deferred (some [])) :: R) w) (h1 : ∀ w', Sep w0 R w' → Tells P n f w' r v) (h : ∀ w', Sep w0 R w' → E (.returned v) w') : postM P fn E .ret (marked D (act n f)) w := by
  have hs := (hS.putObj (.deferred none)).sub (List.sublist_cons_self _ _)
  obtain ⟨_, x⟩ := (wret1 hr (h1 _ hs) (h _ hs) : bodyPost P fn E .ret (act n f) (w.putObj D (.deferred none)))
  exact ⟨by simp, .inl ⟨D, _, rfl, run_takeDeferred (hS.get 0 rfl), x⟩⟩
theorem tellC1 {t : Nat} {ty : TypeId} {g : Nat} {v : Value} {t' : TypeId} (hA : One P ty) (hS : Sep w0 R w) (k : Nat) (h : Nat.blt t n = true) (hv : f t = .pointer (some ⟨g, 0, none⟩)) (hk : R[k]? = some (.blk g [v] t')) : Tells P n f w (.cell t ty) v := by
  unfold Tells; simp only []
  rw [act_getD h, hv]
  have := run_loadAt_one (P := P) (w := w) (g := g) (off := 0) (v := v) hA ((blk_cell (hS.blkAt k hk) 0).trans rfl)
  simpa [Instr.loadAt, Instr.sureAddr, asAddr] using this
/-- A function that hands nothing back. -/
theorem wret0 {fn : Func} {E : Ending → World → Prop} (hr : fn.results = #[]) (h : E (.returned (.tuple #[])) w) : bodyPost P fn E .ret (act n f) w := by
  refine wret hr ?_ h
  simp
theorem wret0n {fn : Func} {E : Ending → World → Prop} (hr : fn.results = #[]) (h : E (.returned (.tuple #[])) w) : bodyPost P fn E .normal (act n f) w :=
  (wret0 hr h : bodyPost P fn E .ret (act n f) w)
end

end Go.Proofs.YtgemncfpehmdeaaDoor
