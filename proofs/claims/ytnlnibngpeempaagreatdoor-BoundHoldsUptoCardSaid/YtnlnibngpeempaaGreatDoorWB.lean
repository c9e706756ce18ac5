/-
  Contracts and lemmas, joined in one text.
-/
import Derived.Test.YtnlnibngpeempaaGreatDoorWA
import Derived.RangeFuncLeaves
import Derived.RangeFuncSeq
import Derived.RangeFuncCalls
import Derived.RangeFuncRecord
import Derived.TacticsIn
set_option linter.unusedVariables false
set_option linter.unusedSimpArgs false
/-
  A region that draws its order,where one that may come late waits for another that may.
-/
namespace Go.Proofs.YtnlnibngpeempaaGreatDoor
open Go.RowKit
section
variable {P:Program} {ops:Array Oper} {n:Nat} {w0:World} {Q:Exit → Act → World → Prop}
end
theorem run_field_agg {P:Program} {s:TypeId} {i sz:Nat} {cs vs:List Value} {fs:Array Field} {fd:Field} (hu:∀ w,(underlying s).run P w = .ok (.struct fs) w) (hf:fs[i]? = some fd) (hA:Agg P fd.type sz) (hv:(cs.drop fd.offset).take sz = vs) (w:World):(Instr.field s (.agg cs.toArray) i).run P w = .ok (.agg vs.toArray) w:=by
  subst hv
  simp [Instr.field,hu,hf,asAgg,Go.part,hA.isAgg,hA.size,List.extract_toArray,List.extract]
open Go.RowKit
def Res.obj (g:Nat) (o:Obj):Res where
  own:=true
  arg:=false
  foot k:=k = g
  holds w:=w.heap[g]? = some o
  lt w h k hk:=by subst hk; exact (Array.getElem?_eq_some_iff.1 h).1
  stays w w' he h:=(he g rfl).trans h
theorem Sep.addObj {w0:World} {R:List Res} {w:World} (h:Sep w0 R w) (o:Obj):Sep w0 (.obj w.heap.size o :: R) (w.alloc o) :=
  h.add ((Below.refl _ _).alloc (Nat.le_refl _) _) _ (World.alloc_heap_new w o) (fun g hg => by have hg':g = w.heap.size:=hg; omega)
theorem Sep.putObj {w0:World} {R:List Res} {w:World} {g:Nat} {o:Obj} (h:Sep w0 (.obj g o :: R) w) (o':Obj):Sep w0 (.obj g o' :: R) (w.putObj g o'):=by
  have hg:w.heap[g]? = some o:=h.get 0 rfl
  exact h.change 0 rfl rfl rfl (fun _ h => h) ⟨rfl,rfl,rfl,by simp [World.putObj],fun j hj => World.putObj_heap_other (fun e => hj e)⟩ (World.putObj_heap_same (Array.getElem?_eq_some_iff.1 hg).1)
def Fz (r:Option Nat):Fence := { fn:=fun _ => True,depth:=none,alive:=false,round:=r }
def noDefer (o:Oper):Bool:=match o.op with
  | .defer _ => false
  | _ => true
structure LR (r:Option Nat) (m:Nat) (P:Program) (ops:Array Oper) (Q:Exit → Act → World → Prop) (l:List Oper) (a:Act) (w:World):Prop where
  out:wpListIn (Fz r) m P ops Q l a w
structure CR (r:Option Nat) (m:Nat) (P:Program) (c:Code) (Q:Exit → Act → World → Prop) (a:Act) (w:World):Prop where
  out:c.wpIn (Fz r) m P Q a w
section
variable {P:Program} {r:Option Nat} {m n:Nat} {Q:Exit → Act → World → Prop} {a:Act} {w:World} {f:Nat → Value} {o:Oper} {K:Act → World → Prop} {d:Nat}
theorem calls_z {F:FuncId} {args:Array Value} {R:Ending → World → Prop}:CallsIn (Fz r) m P F args w R ↔ Calls P F args w R :=
  (show CallsIn Fence.wide m P F args w R ↔ Calls P F args w R from callsIn_wide)
theorem rows_z {row:String} {args:Array Value} {R:Value → World → Prop} (h:Rows P row args w R):RowsIn (Fz r) m P row args w R:=fun c cs _ => by
  obtain ⟨v,w',hr,hs⟩:=h c cs
  exact ⟨v,w',hr,stepsIn_wide.2 hs⟩
theorem OW.inn (hd:noDefer o = true) (h:OW P o a w K Q):o.wpIn (Fz r) m P a w K Q:=by
 refine ⟨fun _ _ => trivial,?_⟩
 rw [Oper.semAt_eq _ _ _ (fun c hc => by unfold noDefer at hd; rw [hc] at hd; cases hd)]
 have h:=h.out
 unfold Oper.wp at h
 generalize (execOp a.eval o).run P w = x at h ⊢
 cases x with
 | ok nx w' =>
  cases nx with
  | value v => exact h
  | skip => exact h
  | defer d => exact h
  | enter F args => exact ⟨(fun h0 => by cases h0),calls_z.2 h⟩
  | row row args => exact ⟨(fun h0 => by cases h0),rows_z h⟩
  | _ => exact h.elim
 | halt s w' =>
  cases s with
  | panic v => exact h
  | _ => exact h.elim
theorem rskip (h:Q .normal a w):CR r m P .skip Q a w:=⟨wpIn_skip h⟩
theorem rblock {id:Nat} {c:Code} (h:CR r m P c (Exit.inBlock id Q) a w):CR r m P (.block id c) Q a w:=⟨wpIn_block h.out⟩
theorem rexit {id:Nat} (h:Q (.exit id) a w):CR r m P (.exit id) Q a w:=⟨wpIn_exit h⟩
theorem rseq {x y:Code} (h:CR r m P x (Exit.then (fun a w => CR r m P y Q a w) Q) a w):CR r m P (Code.seq x y) Q a w :=
  ⟨wpIn_seq (wpIn_mono h.out (fun e a w q => by cases e <;> first | exact q | exact CR.out q))⟩
theorem rT {c:Operand} {x y:Code} (hc:a.eval c = .bool true) (h:CR r m P x Q a w):CR r m P (Code.cond c x y) Q a w:=⟨wpIn_cond_true hc h.out⟩
theorem rF {c:Operand} {x y:Code} (hc:a.eval c = .bool false) (h:CR r m P y Q a w):CR r m P (Code.cond c x y) Q a w:=⟨wpIn_cond_false hc h.out⟩
theorem rreg {id:Nat} {l:List Oper} (h:LR r m P l.toArray Q l a w):CR r m P (Code.region id l.toArray false) Q a w:=⟨wpIn_region_lit h.out⟩
theorem rnil {ops:Array Oper} (h:Q .normal a w):LR r m P ops Q [] a w:=⟨h⟩
theorem rl {ops:Array Oper} {rest:List Oper} (hg:o.guard = none) (hd:noDefer o = true) (h:OW P o a w (fun a' w' => LR r m P ops Q rest a' w') Q):LR r m P ops Q (o :: rest) a w:=by
  refine ⟨?_⟩
  have hw:Region.wanted o (yielded ops a.tmps) = true:=by simp [Region.wanted,hg]
  simp only [wpListIn,hw,if_true]
  exact OW.inn hd (h.mono fun a w h => h.out)
theorem cw_of_cr {c:Code} (h:CR none m P c Q a w):CW P c Q a w:=⟨wpIn_wide.1 h.out⟩
end
def YieldOk {α : Type} (P:Program) (w0:World) (T : α → Tell) (xs:List α) (l:Nat) (I Ix:List α → List Res → Prop):Prop :=
 ∀ (m:Nat) (pre:List α) (x : α) (v:Value) (r Rf Rc:List Res) (W:World),pre ++ [x] <+: xs → I pre Rc → T x v r → Sep w0 (r ++ (Rf ++ Rc)) W →
  YieldAt (Fz none) m P l #[v] W fun e W' => (e = .returned (.bool true) ∧ ∃ Rc',I (pre ++ [x]) Rc' ∧ Sep w0 (Rf ++ Rc') W') ∨ (e = .returned (.bool false) ∧ ∃ Rc',Ix (pre ++ [x]) Rc' ∧ Sep w0 (Rf ++ Rc') W')
def Iter {α : Type} (P:Program) (gf:FuncId) (lb:Array Value) (T : α → Tell) (xs:List α) (w0:World) (R:List Res):Prop :=
 ∀ (l:Nat) (I Ix:List α → List Res → Prop) (Rc:List Res) (W:World),YieldOk P w0 T xs l I Ix → I [] Rc → Sep w0 (R ++ Rc) W →
  Calls P gf (#[.func (.yield l) #[] #[]] ++ lb) W fun e W' => (∃ v,e = .returned v) ∧ ((∃ Rc',I xs Rc' ∧ Sep w0 Rc' W') ∨ ∃ pre Rc',pre <+: xs ∧ Ix pre Rc' ∧ Sep w0 Rc' W')
def roundEnd {α : Type} (w0:World) (I:List α → List Res → Prop) (Ix:Code → List α → List Res → Prop) (Rf:List Res) (xs:List α):Exit → Act → World → Prop
  | .normal,_,W => ∃ Rc,I xs Rc ∧ Sep w0 (Rf ++ Rc) W
  | .ret,_,W => ∃ Rc,Ix .ret xs Rc ∧ Sep w0 (Rf ++ Rc) W
  | .exit i,_,W => ∃ Rc,Ix (.exit i) xs Rc ∧ Sep w0 (Rf ++ Rc) W
  | .goto t,_,W => ∃ Rc,Ix (.goto t) xs Rc ∧ Sep w0 (Rf ++ Rc) W
  | _,_,_ => False
def marked (D:Nat) (a:Act):Act := { a with defers := { target:=.collected D,args:=#[] } :: a.defers }
section
variable {P:Program} {n:Nat} {Q:Exit → Act → World → Prop} {w w0:World} {f:Nat → Value}
theorem sep_mid {R1 R2:List Res} {x:Res} {W:World}:Sep w0 (R1 ++ x :: R2) W ↔ Sep w0 (x :: (R1 ++ R2)) W :=
  ⟨fun h => h.perm List.perm_middle,fun h => h.perm List.perm_middle.symm⟩
theorem wrange {α : Type} {g:Operand} {p:Nat} {assign body:Code} {R Rc:List Res} {gf:FuncId} {lb:Array Value} {T : α → Tell} {xs:List α}
  (hg:(act n f).eval g = .func (.func gf) #[] lb) (eg:∀ args w,(callFunc gf args).run P w = .ok (.enter gf args) w) (hIt:Iter P gf lb T xs w0 R) (hS:Sep w0 (R ++ Rc) w)
  (I:List α → List Res → Prop) (Ix:Code → List α → List Res → Prop) (h0:I [] Rc) (A:List α → α → (Nat → Value) → List Res → Prop)
  (hassign:∀ (l m:Nat) (pre:List α) (x : α) (v:Value) (r Rf Rc:List Res) (W:World),pre ++ [x] <+: xs → I pre Rc → T x v r → Sep w0 (r ++ (Rf ++ Rc)) W →
   CR (some l) m P assign (Exit.then (fun a W' => ∃ f' Rc',a = act n f' ∧ A pre x f' Rc' ∧ Sep w0 (Rf ++ Rc') W') (fun _ _ _ => False)) (act n (upd f p v)) W)
  (hbody:∀ (l m:Nat) (pre:List α) (x : α) (f':Nat → Value) (Rf Rc:List Res) (W:World),pre ++ [x] <+: xs → A pre x f' Rc → Sep w0 (Rf ++ Rc) W → CR (some l) m P body (roundEnd w0 I Ix Rf (pre ++ [x])) (act n f') W)
  (hdone:∀ (D:Nat) (Rc:List Res) (W:World),I xs Rc → Sep w0 (.obj D (.deferred (some [])) :: Rc) W → Q .normal (marked D (act n f)) W)
  (hstop:∀ (D:Nat) (c:Code) (pre:List α) (Rc:List Res) (W:World),pre <+: xs → Ix c pre Rc → Sep w0 (.obj D (.deferred (some [])) :: Rc) W → c.wp P Q (marked D (act n f)) W) :
  CW P (Code.rangeFunc g #[p] assign body) Q (act n f) w:=by
 refine ⟨(wpIn_wide (n:=0)).1 (wpIn_rangeFunc ?_)⟩
 intro fn _
 obtain ⟨rec,hrec⟩:∃ rec:LoopState → Option Code → Loop,rec = fun st pe => { state:=st,pending:=pe,fn,tmps:=(act n f).tmps,params:=#[p],assign,body,defers:=w.heap.size }:=⟨_,rfl⟩
 obtain ⟨W1,hW1⟩:∃ W1,(w.alloc (.deferred (some []))).alloc (.loop (rec .ready none)) = W1:=⟨_,rfl⟩
 have hs1:Sep w0 (.obj (w.heap.size + 1) (.loop (rec .ready none)) :: .obj w.heap.size (.deferred (some [])) :: (R ++ Rc)) W1:=by
  have h1:=(hS.addObj (.deferred (some []))).addObj (.loop (rec .ready none))
  rw [World.size_alloc,hW1] at h1
  exact h1
 have hround:∀ (st:LoopState) (pe:Option Code) (R':List Res) (W:World),Sep w0 (.obj (w.heap.size + 1) (.loop (rec st pe)) :: R') W → W.heap[w.heap.size + 1]? = some (.loop (rec st pe)):=fun st pe R' W h => h.get 0 rfl
 refine ⟨w.heap.size + 1,[{ target:=.collected w.heap.size,args:=#[] }],W1, { target:=.fn (.func gf) lb,args:=#[.func (.yield (w.heap.size + 1)) #[] #[]] },W1,gf,
  #[.func (.yield (w.heap.size + 1)) #[] #[]] ++ lb,W1,?_,?_,?_,?_,(fun h => by cases h),?_⟩
 ·rw [← hW1,hrec]; exact run_enterLoop_outer _ _ _ _ _
 ·simp only [resolve,hg]
  simp [go_sem]
 ·intro f' _; trivial
 ·simp [invoke,go_sem,eg]
 refine callsIn_wide.2 ((hIt (w.heap.size + 1)
  (fun pre R' => ∃ Rc,R' = .obj (w.heap.size + 1) (.loop (rec .ready none)) :: .obj w.heap.size (.deferred (some [])) :: Rc ∧ I pre Rc)
  (fun pre R' => ∃ c Rc,R' = .obj (w.heap.size + 1) (.loop (rec .done (some c))) :: .obj w.heap.size (.deferred (some [])) :: Rc ∧ Ix c pre Rc)
  (.obj (w.heap.size + 1) (.loop (rec .ready none)) :: .obj w.heap.size (.deferred (some [])) :: Rc) W1 ?_ ⟨Rc,rfl,h0⟩ (sep_mid.2 (by
   have:=sep_mid (R1:=.obj (w.heap.size + 1) (.loop (rec .ready none)) :: R) (R2:=Rc) (x:=.obj w.heap.size (.deferred (some []))) (w0:=w0) (W:=W1)
   exact this.2 (hs1.perm (List.Perm.swap _ _ _))))).mono ?_)
 ·-- one round
  rintro m pre x v r Rf _ W hpx ⟨Rc,rfl,hi⟩ hT hs
  have hs2:Sep w0 (.obj (w.heap.size + 1) (.loop (rec .ready none)) :: (r ++ (Rf ++ .obj w.heap.size (.deferred (some [])) :: Rc))) W:=by
   have h1:=hs
   rw [← List.append_assoc] at h1
   have h2:=sep_mid.1 h1
   rw [List.append_assoc] at h2
   exact h2
  have hl:=hround _ _ _ _ hs2
  have hy:=run_yield (P:=P) (args:=#[v]) hl (by rw [hrec]; rfl)
  refine ⟨_,_,_,_,hy,?_⟩
  have etm:((rec .ready none).params.zip #[v]).foldl (fun tmps (t,a) => tmps.setIfInBounds t a) (rec .ready none).tmps = (act n (upd f p v)).tmps:=by
   rw [← act_put,hrec]; simp [Act.put,Array.zip]
  rw [etm,show (rec .ready none).assign = assign by rw [hrec],show (rec .ready none).body = body by rw [hrec]]
  refine roundIn_of_wpIn trivial (wpIn_mono (hassign (w.heap.size + 1) m pre x v r (.obj (w.heap.size + 1) (.loop (rec .ready none)) :: .obj w.heap.size (.deferred (some [])) :: Rf) Rc W hpx hi hT ?_).out ?_)
  ·refine hs2.perm ?_
   have p1:(r ++ (Rf ++ .obj w.heap.size (.deferred (some [])) :: Rc)).Perm (r ++ (.obj w.heap.size (.deferred (some [])) :: (Rf ++ Rc))):=List.Perm.append_left r List.perm_middle
   exact (List.Perm.cons _ p1).trans List.perm_middle.symm
  intro e a' W2 hq
  cases e with
  | normal =>
   obtain ⟨f',Rc1,rfl,hA,hs3⟩:=hq
   refine ⟨_,run_beginRound (hround _ _ _ _ hs3) (by rw [hrec]),?_⟩
   have hs4:=hs3.putObj (.loop { rec .ready none with state:=.busy })
   refine wpIn_mono (hbody (w.heap.size + 1) m pre x f' (.obj (w.heap.size + 1) (.loop { rec .ready none with state:=.busy }) :: .obj w.heap.size (.deferred (some [])) :: Rf) Rc1 _ hpx hA hs4).out ?_
   have fin:∀ (jump:Option Code) (Rc2:List Res) (W3:World),Sep w0 (.obj (w.heap.size + 1) (.loop { rec .ready none with state:=.busy }) :: .obj w.heap.size (.deferred (some [])) :: (Rf ++ Rc2)) W3 →
     ∃ W4,(Instr.endRound (w.heap.size + 1) jump).run P W3 = .ok (.bool jump.isNone) W4 ∧ Sep w0 (Rf ++ .obj (w.heap.size + 1) (.loop (rec (if jump.isNone then .ready else .done) jump)) :: .obj w.heap.size (.deferred (some [])) :: Rc2) W4:=fun jump Rc2 W3 h3 => by
    have hl3:W3.heap[w.heap.size + 1]? = some (.loop { rec .ready none with state:=.busy }):=h3.get 0 rfl
    refine ⟨_,run_endRound jump hl3,?_⟩
    have h4:=h3.putObj (.loop { { rec .ready none with state:=.busy } with state:=if jump.isNone then .ready else .done,pending:=jump })
    have e4:({ { rec .ready none with state:=.busy } with state:=if jump.isNone then .ready else .done,pending:=jump }:Loop) = rec (if jump.isNone then .ready else .done) jump:=by rw [hrec]
    rw [e4] at h4 ⊢
    refine h4.perm ?_
    exact ((List.Perm.cons _ List.perm_middle.symm).trans List.perm_middle.symm)
   intro e a3 W3 hp
   cases e with
   | normal =>
    obtain ⟨Rc2,hI,h3⟩:=hp
    obtain ⟨W4,hr,h4⟩:=fin none Rc2 W3 h3
    exact ⟨_,_,hr,.inl ⟨rfl,_,⟨Rc2,rfl,hI⟩,h4⟩⟩
   | ret =>
    obtain ⟨Rc2,hI,h3⟩:=hp
    obtain ⟨W4,hr,h4⟩:=fin (some .ret) Rc2 W3 h3
    exact ⟨_,_,hr,.inr ⟨rfl,_,⟨_,Rc2,rfl,hI⟩,h4⟩⟩
   | exit id =>
    obtain ⟨Rc2,hI,h3⟩:=hp
    obtain ⟨W4,hr,h4⟩:=fin (some (.exit id)) Rc2 W3 h3
    exact ⟨_,_,hr,.inr ⟨rfl,_,⟨_,Rc2,rfl,hI⟩,h4⟩⟩
   | goto t =>
    obtain ⟨Rc2,hI,h3⟩:=hp
    obtain ⟨W4,hr,h4⟩:=fin (some (.goto t)) Rc2 W3 h3
    exact ⟨_,_,hr,.inr ⟨rfl,_,⟨_,Rc2,rfl,hI⟩,h4⟩⟩
   | panic ch => exact hp.elim
   | outgrown => exact hp.elim
  | _ => exact hq.elim
 -- behind the iterator
 rintro e W2 ⟨⟨v,rfl⟩,(⟨_,⟨Rc2,rfl,hi⟩,hs⟩ | ⟨pre,_,hpre,⟨c,Rc2,rfl,hi⟩,hs⟩)⟩
 ·refine ⟨none,_,by have:=run_endLoop (P:=P) (hround _ _ _ _ hs) (by rw [hrec]; simp); rw [hrec] at this; exact this,?_⟩
  exact hdone _ Rc2 _ hi ((hs.putObj _).sub (List.sublist_cons_self _ _))
 refine ⟨some c,_,by have:=run_endLoop (P:=P) (hround _ _ _ _ hs) (by rw [hrec]; simp); rw [hrec] at this; exact this,?_⟩
 exact wpIn_wide.2 (hstop _ c pre Rc2 _ hpre hi ((hs.putObj _).sub (List.sublist_cons_self _ _)))
end
open Go.RowKit
section
variable {P:Program} {n D d:Nat} {Q:Exit → Act → World → Prop} {w w0:World} {f:Nat → Value} {o:Oper} {R:List Res}
theorem put_mark (a:Act) (x:Option Tmp) (v:Value):(marked D a).put x v = marked D (a.put x v):=by cases x <;> rfl
theorem OW.mark {N K:Act → World → Prop} (hN:∀ a w,N a w → ∃ f',a = act n f' ∧ K (marked D (act n f')) w) (h:OW P o (act n f) w N (fun e a w => Q e (marked D a) w)):OW P o (marked D (act n f)) w K Q:=by
 refine ⟨?_⟩
 have h:=h.out
 unfold Oper.wp at h ⊢
 have e:execOp (marked D (act n f)).eval o = execOp (act n f).eval o:=rfl
 rw [e]
 have key:∀ (x:Option Tmp) (v:Value) (w':World),N ((act n f).put x v) w' → K ((marked D (act n f)).put x v) w':=fun x v w' h => by
  obtain ⟨f',e,hk⟩:=hN _ _ h
  rw [put_mark,e]; exact hk
 generalize (execOp (act n f).eval o).run P w = x at h ⊢
 cases x with
 | ok nx w' =>
  cases nx with
  | value v => exact key _ _ _ h
  | skip => exact key _ _ _ h
  | defer dd =>
   exfalso
   obtain ⟨f',e,_⟩:=hN _ _ h
   have:=congrArg Act.defers e
   cases hd:o.dst with
   | none => rw [hd] at this; cases this
   | some t => rw [hd] at this; cases this
  | enter F args =>
   refine Calls.mono h fun e w'' h => ?_
   cases e with
   | returned v => exact key _ _ _ h
   | panicked c => exact h
   | outgrown =>
    obtain ⟨a,w1,hq⟩:=h
    exact ⟨_,w1,hq⟩
  | row row args => exact Rows.mono h fun v w'' h => key _ _ _ h
  | _ => exact h.elim
 | halt s w' =>
  cases s with
  | panic v => exact h
  | _ => exact h.elim
structure LM (D n:Nat) (P:Program) (ops:Array Oper) (Q:Exit → Act → World → Prop) (l:List Oper) (a:Act) (w:World):Prop where
  out:∃ f',a = act n f' ∧ LW P ops Q l (marked D (act n f')) w
theorem mreg {id:Nat} {l:List Oper} (h:LM D n P l.toArray Q l (act n f) w):CW P (Code.region id l.toArray false) Q (marked D (act n f)) w:=by
  obtain ⟨f',e,h⟩:=h.out
  rw [e]; exact wreg h
theorem mnil {ops:Array Oper} (h:Q .normal (marked D (act n f)) w):LM D n P ops Q [] (act n f) w:=⟨f,rfl,wnil h⟩
theorem ml {ops:Array Oper} {rest:List Oper} (hg:o.guard = none) (h:OW P o (act n f) w (fun a' w' => LM D n P ops Q rest a' w') (fun e a w => Q e (marked D a) w)):LM D n P ops Q (o :: rest) (act n f) w :=
  ⟨f,rfl,wl hg (OW.mark (fun a w h => h.out) h)⟩
def postM (P:Program) (fn:Func) (R:Ending → World → Prop):Exit → Act → World → Prop
  | .panic chain,a,w => a.defers = [] ∧ R (.panicked chain) w
  | e,a,w => bodyPostM Fence.wide 0 P fn R e a w
theorem postM_m {fn:Func} {R:Ending → World → Prop} {e:Exit} {a:Act} (h:postM P fn R e a w):bodyPostM Fence.wide 0 P fn R e a w:=by
 cases e with
 | panic chain =>
  obtain ⟨h1,h2⟩:=h
  show LeavesInM Fence.wide 0 P fn a.tmps R a.defers (.panicking chain) w
  rw [h1]; exact h2
 | _ => exact h
theorem wentM {F:FuncId} {fn:Func} {c:Code} {args:Array Value} {R':Ending → World → Prop}
  (hf:P.funcs[F]? = some fn) (hb:fn.body = some c) (hn:fn.ntmps = n) (ha:Nat.ble args.size n = true)
  (h:CW P c (postM P fn R') (act n (fun i => args.getD i undef)) w):Calls P F args w R':=by
 refine (callsIn_wide (n:=0)).1 (callsIn_of_wp_marks (n:=0) hf hb trivial ((wpIn_wide (n:=0)).2 ?_))
 have e:({ tmps:=args ++ Array.replicate (fn.ntmps - args.size) undef,defers:=[] }:Act) = act n (fun i => args.getD i undef):=by
  have ha':args.size ≤ n:=Nat.le_of_ble_eq_true ha
  simp only [act,hn]
  congr 1
  apply Array.ext
  ·simp; omega
  intro i h1 h2
  simp at h1 h2
  by_cases hi:i < args.size
  ·simp [Array.getElem_append,hi,Array.getD]
  simp [Array.getElem_append,hi,Array.getD]
 rw [e]; exact wp_mono h.out (fun e a w h => postM_m h)
theorem tellC1 {t:Nat} {ty:TypeId} {g:Nat} {v:Value} {t':TypeId} (hA:One P ty) (hS:Sep w0 R w) (k:Nat) (h:Nat.blt t n = true) (hv:f t = .pointer (some ⟨g,0,none⟩)) (hk:R[k]? = some (.blk g [v] t')):Tells P n f w (.cell t ty) v:=by
  unfold Tells; simp only []
  rw [act_getD h,hv]
  have:=run_loadAt_one (P:=P) (w:=w) (g:=g) (off:=0) (v:=v) hA ((blk_cell (hS.blkAt k hk) 0).trans rfl)
  simpa [Instr.loadAt,Instr.sureAddr,asAddr] using this
theorem wret0 {fn:Func} {E:Ending → World → Prop} (hr:fn.results = #[]) (h:E (.returned (.tuple #[])) w):bodyPost P fn E .ret (act n f) w:=by
  refine wret hr ?_ h
  simp
theorem wret0n {fn:Func} {E:Ending → World → Prop} (hr:fn.results = #[]) (h:E (.returned (.tuple #[])) w):bodyPost P fn E .normal (act n f) w :=
  (wret0 hr h:bodyPost P fn E .ret (act n f) w)
end
open Go.RowKit
theorem Sep.pickT {w0 w:World} {T:List Res} (R S:List Res) (h:Sep w0 (R ++ T) w) (ks:List Nat) (hn:ks.Nodup) (he:ks.map (fun k => R[k]?) = S.map some):Sep w0 (S ++ T) w:=by
 refine h.pick (ks ++ List.range' R.length T.length) ?_ ?_
 ·have hlt:∀ k ∈ ks,k < R.length:=fun k hk => by
   have:R[k]? ∈ S.map some:=by rw [← he]; exact List.mem_map.2 ⟨k,hk,rfl⟩
   obtain ⟨s,_,hs⟩:=List.mem_map.1 this
   exact (List.getElem?_eq_some_iff.1 hs.symm).1
  refine List.nodup_append.2 ⟨hn,List.nodup_range',fun a ha b hb e => ?_⟩
  subst e
  have:=hlt a ha
  rw [List.mem_range'_1] at hb
  omega
 rw [List.map_append,List.map_append]
 congr 1
 ·rw [← he]
  refine List.map_congr_left fun k hk => ?_
  have:R[k]? ∈ S.map some:=by rw [← he]; exact List.mem_map.2 ⟨k,hk,rfl⟩
  obtain ⟨s,_,hs⟩:=List.mem_map.1 this
  exact List.getElem?_append_left (List.getElem?_eq_some_iff.1 hs.symm).1
 apply List.ext_getElem?
 intro i
 rw [List.getElem?_map,List.getElem?_map]
 by_cases hi:i < T.length
 ·rw [List.getElem?_range' hi,Option.map_some,List.getElem?_append_right (by omega)]
  simp [hi]
 rw [List.getElem?_eq_none (by simpa using hi),List.getElem?_eq_none (by omega)]; rfl
theorem Sep.behind {w0 w:World} {T:List Res} (R:List Res) (h:Sep w0 (R ++ T) w):Sep w0 T w:=h.sub (List.sublist_append_right R T)
theorem Sep.front1 {w0 w:World} {R S r:List Res} (h:Sep w0 (R ++ (r ++ S)) w):Sep w0 (r ++ (R ++ S)) w:=h.perm (by
  rw [← List.append_assoc, ← List.append_assoc]
  exact List.Perm.append_right S List.perm_append_comm)
theorem Sep.front2 {w0 w:World} {R S r0 r1:List Res} (h:Sep w0 (R ++ (r0 ++ (r1 ++ S))) w):Sep w0 (r0 ++ (r1 ++ (R ++ S))) w:=by
  have e:r0 ++ (r1 ++ S) = (r0 ++ r1) ++ S:=by simp
  rw [e] at h
  have:=Sep.front1 h
  simpa using this
open Go.RowKit
section
variable {P:Program} {r:Option Nat} {m n D d:Nat} {Q:Exit → Act → World → Prop} {a:Act} {w w0:World} {f:Nat → Value} {o:Oper}
theorem rlOn {ops:Array Oper} {rest:List Oper} {g:Nat} {b:Bool} (hg:o.guard = some (g,b)) {e:Nat} (hs:(ops[g]?).bind (·.dst) = some e) (hd:Nat.blt e n = true) (hv:f e = .bool b) (hn:noDefer o = true)
  (h:OW P o (act n f) w (fun a' w' => LR r m P ops Q rest a' w') Q):LR r m P ops Q (o :: rest) (act n f) w:=by
 refine ⟨?_⟩
 have hw:=want_on (ops:=ops) hg hs hd hv
 simp only [wpListIn,hw,if_true]
 exact OW.inn hn (h.mono fun a w h => h.out)
theorem rlOff {ops:Array Oper} {rest:List Oper} {g:Nat} {b b':Bool} (hg:o.guard = some (g,b)) {e:Nat} (hs:(ops[g]?).bind (·.dst) = some e) (hd:Nat.blt e n = true) (hv:f e = .bool b') (hne:(b' == b) = false)
  (ho:o.dst = some d) (h:LR r m P ops Q rest (act n (upd f d undef)) w):LR r m P ops Q (o :: rest) (act n f) w:=by
 refine ⟨?_⟩
 have hw:=want_off (ops:=ops) hg hs hd hv hne
 simp only [wpListIn,hw,Bool.false_eq_true,if_false,ho]
 rw [act_put]
 exact ⟨fun _ _ => trivial,h.out⟩
theorem mact_sets {l:List (Nat × Value)} (h:AllAt f l):marked D (act n f) = marked D (act n (sets f l)):=by rw [sets_self h]
end
theorem box_cells {w:World} {g:Nat} {cs:List Value} {t:TypeId} (h:w.heap[g]? = some (.cells cs.toArray t)):∀ j v,cs[j]? = some v → w.cell? ⟨g,0 + j,none⟩ = some v:=fun j v hj => by
  rw [Nat.zero_add]; exact (blk_cell h j).trans hj
def Nm (xs:List Nat):Tell:=fun v r => ∃ p n c,v = .slice p n c ∧ r = [.rowm p n c xs]
theorem RetN.m {w:World} {xs:List Nat} (e:Ending) (w':World) (h:RetN w xs e w'):Ret (Nm xs) w e w':=by
  obtain ⟨v,r,rfl,⟨p,n,c,rfl,rfl⟩,hN⟩:=RetN.u e w' h
  refine ⟨_,_,rfl,⟨p,n,c,rfl,rfl⟩,New.rowm hN.below ?_⟩
  have hf:Fr 0 w' p n c xs:=hN.holds _ List.mem_cons_self
  exact hf.raise (fun g hg => hN.high _ List.mem_cons_self g hg)
end Go.Proofs.YtnlnibngpeempaaGreatDoor
