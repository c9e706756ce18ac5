
/-
  A range over a function: the iterator's contract and the caller's law, over what a call owns (Sep).
-/
import Derived.Test.YtgemncfpehmdeaaDoorW7
import Derived.RangeFuncLeaves
import Derived.RangeFuncSeq
import Derived.RangeFuncCalls
import Derived.RangeFuncRecord
import Derived.TacticsIn
set_option linter.unusedVariables false
set_option linter.unusedSimpArgs false
namespace Go.Proofs.YtgemncfpehmdeaaDoor
open Go.RowKit

/-- An object of the model's own. -/
def Res.obj (g : Nat) (o : Obj) : Res where
  own := true
  arg := false
  foot k := k = g
  holds w := w.heap[g]? = some o
  lt w h k hk := by subst hk; exact (Array.getElem?_eq_some_iff.1 h).1
  stays w w' he h := (he g rfl).trans h
theorem Sep.addObj {w0 : World} {R : List Res} {w : World} (h : Sep w0 R w) (o : Obj) : Sep w0 (.obj w.heap.size o :: R) (w.alloc o) :=
  h.add ((Below.refl _ _).alloc (Nat.le_refl _) _) _ (World.alloc_heap_new w o) (fun g hg => by have hg' : g = w.heap.size := hg; omega)
theorem Sep.putObj {w0 : World} {R : List Res} {w : World} {g : Nat} {o : Obj} (h : Sep w0 (.obj g o :: R) w) (o' : Obj) : Sep w0 (.obj g o' :: R) (w.putObj g o') := by
  have hg : w.heap[g]? = some o := h.get 0 rfl
  exact h.change 0 rfl rfl rfl (fun _ h => h) ⟨rfl, rfl, rfl, by simp [World.putObj], fun j hj => World.putObj_heap_other (fun e => hj e)⟩ (World.putObj_heap_same (Array.getElem?_eq_some_iff.1 hg).1)

/-! ### Code within a round -/
/-- Whatever function, in a round or in none. -/
def Fz (r : Option Nat) : Fence := { fn := fun _ => True, depth := none, alive := false, round := r }
def noDefer (o : Oper) : Bool := match o.op with
  | .defer _ => false
  | _ => true
structure LR (r : Option Nat) (m : Nat) (P : Program) (ops : Array Oper) (Q : Exit → Act → World → Prop) (l : List Oper) (a : Act) (w : World) : Prop where
  out : wpListIn (Fz r) m P ops Q l a w
structure CR (r : Option Nat) (m : Nat) (P : Program) (c : Code) (Q : Exit → Act → World → Prop) (a : Act) (w : World) : Prop where
  out : c.wpIn (Fz r) m P Q a w
section
variable {P : Program} {r : Option Nat} {m n : Nat} {Q : Exit → Act → World → Prop} {a : Act} {w : World} {f : Nat → Value} {o : Oper} {K : Act → World → Prop} {d : Nat}
theorem calls_z {F : FuncId} {args : Array Value} {R : Ending → World → Prop} : CallsIn (Fz r) m P F args w R ↔ Calls P F args w R :=
  (show CallsIn Fence.wide m P F args w R ↔ Calls P F args w R from callsIn_wide)
theorem rows_z {row : String} {args : Array Value} {R : Value → World → Prop} (h : Rows P row args w R) : RowsIn (Fz r) m P row args w R := fun c cs _ => by
  obtain ⟨v, w', hr, hs⟩ := h c cs
  exact ⟨v, w', hr, stepsIn_wide.2 hs⟩
theorem OW.inn (hd : noDefer o = true) (h : OW P o a w K Q) : o.wpIn (Fz r) m P a w K Q := by
  refine ⟨fun _ _ => trivial, ?_⟩
  rw [Oper.semAt_eq _ _ _ (fun c hc => by unfold noDefer at hd; rw [hc] at hd; cases hd)]
  have h := h.out
  unfold Oper.wp at h
  generalize (execOp a.eval o).run P w = x at h ⊢
  cases x with
  | ok nx w' =>
    cases nx with
    | value v => exact h
    | skip => exact h
    | defer d => exact h
    | enter F args => exact ⟨(fun h0 => by cases h0), calls_z.2 h⟩
    | row row args => exact ⟨(fun h0 => by cases h0), rows_z h⟩
    | _ => exact h.elim
  | halt s w' =>
    cases s with
    | panic v => exact h
    | _ => exact h.elim
theorem rskip (h : Q .normal a w) : CR r m P .skip Q a w := ⟨wpIn_skip h⟩
theorem rblock {id : Nat} {c : Code} (h : CR r m P c (Exit.inBlock id Q) a w) : CR r m P (.block id c) Q a w := ⟨wpIn_block h.out⟩
theorem rexit {id : Nat} (h : Q (.exit id) a w) : CR r m P (.exit id) Q a w := ⟨wpIn_exit h⟩
theorem rseq {x y : Code} (h : CR r m P x (Exit.then (fun a w => CR r m P y Q a w) Q) a w) : CR r m P (Code.seq x y) Q a w :=
  ⟨wpIn_seq (wpIn_mono h.out (fun e a w q => by cases e <;> first | exact q | exact CR.out q))⟩
theorem rT {c : Operand} {x y : Code} (hc : a.eval c = .bool true) (h : CR r m P x Q a w) : CR r m P (Code.cond c x y) Q a w := ⟨wpIn_cond_true hc h.out⟩
theorem rF {c : Operand} {x y : Code} (hc : a.eval c = .bool false) (h : CR r m P y Q a w) : CR r m P (Code.cond c x y) Q a w := ⟨wpIn_cond_false hc h.out⟩
theorem rreg {id : Nat} {l : List Oper} (h : LR r m P l.toArray Q l a w) : CR r m P (Code.region id l.toArray false) Q a w := ⟨wpIn_region_lit h.out⟩
theorem rnil {ops : Array Oper} (h : Q .normal a w) : LR r m P ops Q [] a w := ⟨h⟩
theorem rl {ops : Array Oper} {rest : List Oper} (hg : o.guard = none) (hd : noDefer o = true) (h : OW P o a w (fun a' w' => LR r m P ops Q rest a' w') Q) : LR r m P ops Q (o :: rest) a w := by
  refine ⟨?_⟩
  have hw : Region.wanted o (yielded ops a.tmps) = true := by simp [Region.wanted, hg]
  simp only [wpListIn, hw, if_true]
  exact OW.inn hd (h.mono fun a w h => h.out)
theorem cw_of_cr {c : Code} (h : CR none m P c Q a w) : CW P c Q a w := ⟨wpIn_wide.1 h.out⟩
/-- The call of yield. -/
theorem ryield {ops : Array Oper} {rest : List Oper} {l : Nat} {c : Call} {x : Operand} {xs : Array Operand} {ts : Array TypeId} {vs : Array Value} {Rp : Ending → World → Prop} (hg : o.guard = none) (hop : o.op = .call c) (hc : c = { callee := .value x, args := xs, argTypes := ts }) (ho : o.dst = some d)
    (hv : (act n f).eval x = .func (.yield l) #[] #[]) (hx : xs.map (act n f).eval = vs) (hY : YieldAt (Fz r) (m - 1) P l vs w Rp)
    (hK : ∀ e w', Rp e w' → ∃ v, e = .returned v ∧ LR r m P ops Q rest (act n (upd f d v)) w') : LR r m P ops Q (o :: rest) (act n f) w := by
  refine ⟨?_⟩
  have hw : Region.wanted o (yielded ops (act n f).tmps) = true := by simp [Region.wanted, hg]
  simp only [wpListIn, hw, if_true]
  refine ⟨fun _ _ => trivial, ?_⟩
  rw [Oper.semAt_eq _ _ _ (fun c' hc' => by rw [hop] at hc'; cases hc')]
  obtain ⟨fn, tmps, assign, body, hy, hR⟩ := hY
  have e : (execOp (act n f).eval o).run P w = .ok (.round l fn tmps assign body) w := by
    subst hc
    simp only [execOp, hop, resolve, hx, hv]
    simp [Deferred.ofValue, invoke, hy]
  rw [e, Oper.uponIn_round]
  refine ⟨fun h => (by cases h), hR.mono fun e w' h => ?_⟩
  obtain ⟨v, rfl, hk⟩ := hK e w' h
  show wpListIn _ _ _ _ _ _ ((act n f).put o.dst v) w'
  rw [ho, act_put]
  exact hk.out
end

/-! ### The iterator's contract, the caller's law -/
/-- What a round is for the iterator: the caller's own (Rc) turns; what is the iterator's (Rf) stays; what it hands over is given away. -/
def YieldOk {α : Type} (P : Program) (w0 : World) (T : α → Tell) (xs : List α) (l : Nat) (I Ix : List α → List Res → Prop) : Prop :=
  ∀ (m : Nat) (pre : List α) (x : α) (v : Value) (r Rf Rc : List Res) (W : World), pre ++ [x] <+: xs → I pre Rc → T x v r → Sep w0 (r ++ (Rf ++ Rc)) W →
    YieldAt (Fz none) m P l #[v] W fun e W' => (e = .returned (.bool true) ∧ ∃ Rc', I (pre ++ [x]) Rc' ∧ Sep w0 (Rf ++ Rc') W') ∨ (e = .returned (.bool false) ∧ ∃ Rc', Ix (pre ++ [x]) Rc' ∧ Sep w0 (Rf ++ Rc') W')
/-- It hands over xs, one by one; or stops where it is told to. -/
def Iter {α : Type} (P : Program) (gf : FuncId) (lb : Array Value) (T : α → Tell) (xs : List α) (w0 : World) (R : List Res) : Prop :=
  ∀ (l : Nat) (I Ix : List α → List Res → Prop) (Rc : List Res) (W : World), YieldOk P w0 T xs l I Ix → I [] Rc → Sep w0 (R ++ Rc) W →
    Calls P gf (#[.func (.yield l) #[] #[]] ++ lb) W fun e W' => (∃ v, e = .returned v) ∧ ((∃ Rc', I xs Rc' ∧ Sep w0 Rc' W') ∨ ∃ pre Rc', pre <+: xs ∧ Ix pre Rc' ∧ Sep w0 Rc' W')
/-- How a round's body may be left. -/
def roundEnd {α : Type} (w0 : World) (I : List α → List Res → Prop) (Ix : Code → List α → List Res → Prop) (Rf : List Res) (xs : List α) : Exit → Act → World → Prop
  | .normal, _, W => ∃ Rc, I xs Rc ∧ Sep w0 (Rf ++ Rc) W
  | .ret, _, W => ∃ Rc, Ix .ret xs Rc ∧ Sep w0 (Rf ++ Rc) W
  | .exit i, _, W => ∃ Rc, Ix (.exit i) xs Rc ∧ Sep w0 (Rf ++ Rc) W
  | .goto t, _, W => ∃ Rc, Ix (.goto t) xs Rc ∧ Sep w0 (Rf ++ Rc) W
  | _, _, _ => False
/-- The frame behind a range over a function: its mark among the deferred calls. -/
def marked (D : Nat) (a : Act) : Act := { a with defers := { target := .collected D, args := #[] } :: a.defers }

section
variable {P : Program} {n : Nat} {Q : Exit → Act → World → Prop} {w w0 : World} {f : Nat → Value}
theorem sep_mid {R1 R2 : List Res} {x : Res} {W : World} : Sep w0 (R1 ++ x :: R2) W ↔ Sep w0 (x :: (R1 ++ R2)) W :=
  ⟨fun h => h.perm List.perm_middle, fun h => h.perm List.perm_middle.symm⟩
theorem wrange {α : Type} {g : Operand} {p : Nat} {assign body : Code} {R Rc : List Res} {gf : FuncId} {lb : Array Value} {T : α → Tell} {xs : List α}
    (hg : (act n f).eval g = .func (.func gf) #[] lb) (eg : ∀ args w, (callFunc gf args).run P w = .ok (.enter gf args) w) (hIt : Iter P gf lb T xs w0 R) (hS : Sep w0 (R ++ Rc) w)
    (I : List α → List Res → Prop) (Ix : Code → List α → List Res → Prop) (h0 : I [] Rc) (A : List α → α → (Nat → Value) → List Res → Prop)
    (hassign : ∀ (l m : Nat) (pre : List α) (x : α) (v : Value) (r Rf Rc : List Res) (W : World), pre ++ [x] <+: xs → I pre Rc → T x v r → Sep w0 (r ++ (Rf ++ Rc)) W →
      CR (some l) m P assign (Exit.then (fun a W' => ∃ f' Rc', a = act n f' ∧ A pre x f' Rc' ∧ Sep w0 (Rf ++ Rc') W') (fun _ _ _ => False)) (act n (upd f p v)) W)
    (hbody : ∀ (l m : Nat) (pre : List α) (x : α) (f' : Nat → Value) (Rf Rc : List Res) (W : World), pre ++ [x] <+: xs → A pre x f' Rc → Sep w0 (Rf ++ Rc) W → CR (some l) m P body (roundEnd w0 I Ix Rf (pre ++ [x])) (act n f') W)
    (hdone : ∀ (D : Nat) (Rc : List Res) (W : World), I xs Rc → Sep w0 (.obj D (.deferred (some [])) :: Rc) W → Q .normal (marked D (act n f)) W)
    (hstop : ∀ (D : Nat) (c : Code) (pre : List α) (Rc : List Res) (W : World), pre <+: xs → Ix c pre Rc → Sep w0 (.obj D (.deferred (some [])) :: Rc) W → c.wp P Q (marked D (act n f)) W) :
    CW P (Code.rangeFunc g #[p] assign body) Q (act n f) w := by
  refine ⟨(wpIn_wide (n := 0)).1 (wpIn_rangeFunc ?_)⟩
  intro fn _
  obtain ⟨rec, hrec⟩ : ∃ rec : LoopState → Option Code → Loop, rec = fun st pe => { state := st, pending := pe, fn, tmps := (act n f).tmps, params := #[p], assign, body, defers := w.heap.size } := ⟨_, rfl⟩
  obtain ⟨W1, hW1⟩ : ∃ W1, (w.alloc (.deferred (some []))).alloc (.loop (rec .ready none)) = W1 := ⟨_, rfl⟩
  have hs1 : Sep w0 (.obj (w.heap.size + 1) (.loop (rec .ready none)) :: .obj w.heap.size (.deferred (some [])) :: (R ++ Rc)) W1 := by
    have h1 := (hS.addObj (.deferred (some []))).addObj (.loop (rec .ready none))
    rw [World.size_alloc, hW1] at h1
    exact h1
  have hround : ∀ (st : LoopState) (pe : Option Code) (R' : List Res) (W : World), Sep w0 (.obj (w.heap.size + 1) (.loop (rec st pe)) :: R') W → W.heap[w.heap.size + 1]? = some (.loop (rec st pe)) := fun st pe R' W h => h.get 0 rfl
  refine ⟨w.heap.size + 1, [{ target := .collected w.heap.size, args := #[] }], W1, { target := .fn (.func gf) lb, args := #[.func (.yield (w.heap.size + 1)) #[] #[]] }, W1, gf,
    #[.func (.yield (w.heap.size + 1)) #[] #[]] ++ lb, W1, ?_, ?_, ?_, ?_, (fun h => by cases h), ?_⟩
  · rw [← hW1, hrec]; exact run_enterLoop_outer _ _ _ _ _
  · simp only [resolve, hg]
    simp [go_sem]
  · intro f' _; trivial
  · simp [invoke, go_sem, eg]
  · refine callsIn_wide.2 ((hIt (w.heap.size + 1)
      (fun pre R' => ∃ Rc, R' = .obj (w.heap.size + 1) (.loop (rec .ready none)) :: .obj w.heap.size (.deferred (some [])) :: Rc ∧ I pre Rc)
      (fun pre R' => ∃ c Rc, R' = .obj (w.heap.size + 1) (.loop (rec .done (some c))) :: .obj w.heap.size (.deferred (some [])) :: Rc ∧ Ix c pre Rc)
      (.obj (w.heap.size + 1) (.loop (rec .ready none)) :: .obj w.heap.size (.deferred (some [])) :: Rc) W1 ?_ ⟨Rc, rfl, h0⟩ (sep_mid.2 (by
        have := sep_mid (R1 := .obj (w.heap.size + 1) (.loop (rec .ready none)) :: R) (R2 := Rc) (x := .obj w.heap.size (.deferred (some []))) (w0 := w0) (W := W1)
        exact this.2 (hs1.perm (List.Perm.swap _ _ _))))).mono ?_)
    · -- one round
      rintro m pre x v r Rf _ W hpx ⟨Rc, rfl, hi⟩ hT hs
      have hs2 : Sep w0 (.obj (w.heap.size + 1) (.loop (rec .ready none)) :: (r ++ (Rf ++ .obj w.heap.size (.deferred (some [])) :: Rc))) W := by
        have h1 := hs
        rw [← List.append_assoc] at h1
        have h2 := sep_mid.1 h1
        rw [List.append_assoc] at h2
        exact h2
      have hl := hround _ _ _ _ hs2
      have hy := run_yield (P := P) (args := #[v]) hl (by rw [hrec]; rfl)
      refine ⟨_, _, _, _, hy, ?_⟩
      have etm : ((rec .ready none).params.zip #[v]).foldl (fun tmps (t, a) => tmps.setIfInBounds t a) (rec .ready none).tmps = (act n (upd f p v)).tmps := by
        rw [← act_put, hrec]; simp [Act.put, Array.zip]
      rw [etm, show (rec .ready none).assign = assign by rw [hrec], show (rec .ready none).body = body by rw [hrec]]
      refine roundIn_of_wpIn trivial (wpIn_mono (hassign (w.heap.size + 1) m pre x v r (.obj (w.heap.size + 1) (.loop (rec .ready none)) :: .obj w.heap.size (.deferred (some [])) :: Rf) Rc W hpx hi hT ?_).out ?_)
      · refine hs2.perm ?_
        have p1 : (r ++ (Rf ++ .obj w.heap.size (.deferred (some [])) :: Rc)).Perm (r ++ (.obj w.heap.size (.deferred (some [])) :: (Rf ++ Rc))) := List.Perm.append_left r List.perm_middle
        exact (List.Perm.cons _ p1).trans List.perm_middle.symm
      · intro e a' W2 hq
        cases e with
        | normal =>
          obtain ⟨f', Rc1, rfl, hA, hs3⟩ := hq
          refine ⟨_, run_beginRound (hround _ _ _ _ hs3) (by rw [hrec]), ?_⟩
          have hs4 := hs3.putObj (.loop { rec .ready none with state := .busy })
          refine wpIn_mono (hbody (w.heap.size + 1) m pre x f' (.obj (w.heap.size + 1) (.loop { rec .ready none with state := .busy }) :: .obj w.heap.size (.deferred (some [])) :: Rf) Rc1 _ hpx hA hs4).out ?_
          have fin : ∀ (jump : Option Code) (Rc2 : List Res) (W3 : World), Sep w0 (.obj (w.heap.size + 1) (.loop { rec .ready none with state := .busy }) :: .obj w.heap.size (.deferred (some [])) :: (Rf ++ Rc2)) W3 →
              ∃ W4, (Instr.endRound (w.heap.size + 1) jump).run P W3 = .ok (.bool jump.isNone) W4 ∧ Sep w0 (Rf ++ .obj (w.heap.size + 1) (.loop (rec (if jump.isNone then .ready else .done) jump)) :: .obj w.heap.size (.deferred (some [])) :: Rc2) W4 := fun jump Rc2 W3 h3 => by
            have hl3 : W3.heap[w.heap.size + 1]? = some (.loop { rec .ready none with state := .busy }) := h3.get 0 rfl
            refine ⟨_, run_endRound jump hl3, ?_⟩
            have h4 := h3.putObj (.loop { { rec .ready none with state := .busy } with state := if jump.isNone then .ready else .done, pending := jump })
            have e4 : ({ { rec .ready none with state := .busy } with state := if jump.isNone then .ready else .done, pending := jump } : Loop) = rec (if jump.isNone then .ready else .done) jump := by rw [hrec]
            rw [e4] at h4 ⊢
            refine h4.perm ?_
            exact ((List.Perm.cons _ List.perm_middle.symm).trans List.perm_middle.symm)
          intro e a3 W3 hp
          cases e with
          | normal =>
            obtain ⟨Rc2, hI, h3⟩ := hp
            obtain ⟨W4, hr, h4⟩ := fin none Rc2 W3 h3
            exact ⟨_, _, hr, .inl ⟨rfl, _, ⟨Rc2, rfl, hI⟩, h4⟩⟩
          | ret =>
            obtain ⟨Rc2, hI, h3⟩ := hp
            obtain ⟨W4, hr, h4⟩ := fin (some .ret) Rc2 W3 h3
            exact ⟨_, _, hr, .inr ⟨rfl, _, ⟨_, Rc2, rfl, hI⟩, h4⟩⟩
          | exit id =>
            obtain ⟨Rc2, hI, h3⟩ := hp
            obtain ⟨W4, hr, h4⟩ := fin (some (.exit id)) Rc2 W3 h3
            exact ⟨_, _, hr, .inr ⟨rfl, _, ⟨_, Rc2, rfl, hI⟩, h4⟩⟩
          | goto t =>
            obtain ⟨Rc2, hI, h3⟩ := hp
            obtain ⟨W4, hr, h4⟩ := fin (some (.goto t)) Rc2 W3 h3
            exact ⟨_, _, hr, .inr ⟨rfl, _, ⟨_, Rc2, rfl, hI⟩, h4⟩⟩
          | panic ch => exact hp.elim
          | outgrown => exact hp.elim
        | _ => exact hq.elim
    · -- behind the iterator
      rintro e W2 ⟨⟨v, rfl⟩, (⟨_, ⟨Rc2, rfl, hi⟩, hs⟩ | ⟨pre, _, hpre, ⟨c, Rc2, rfl, hi⟩, hs⟩)⟩
      · refine ⟨none, _, by have := run_endLoop (P := P) (hround _ _ _ _ hs) (by rw [hrec]; simp); rw [hrec] at this; exact this, ?_⟩
        exact hdone _ Rc2 _ hi ((hs.putObj _).sub (List.sublist_cons_self _ _))
      · refine ⟨some c, _, by have := run_endLoop (P := P) (hround _ _ _ _ hs) (by rw [hrec]; simp); rw [hrec] at this; exact this, ?_⟩
        exact wpIn_wide.2 (hstop _ c pre Rc2 _ hpre hi ((hs.putObj _).sub (List.sublist_cons_self _ _)))
end

end Go.Proofs.YtgemncfpehmdeaaDoor
