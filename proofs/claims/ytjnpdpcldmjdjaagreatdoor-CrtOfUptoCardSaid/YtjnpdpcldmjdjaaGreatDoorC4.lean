/-
  Contracts and lemmas, joined in one text.
-/
import Derived.Test.YtjnpdpcldmjdjaaGreatDoorWB
import Derived.OrdersIn
import Derived.Test.YtjnpdpcldmjdjaaGreatDoorCA
set_option linter.unusedVariables false
set_option linter.unusedSimpArgs false
/-
  Within a round: a region that draws its order; a call of yield under a guard.
-/
namespace Go.Proofs.YtjnpdpcldmjdjaaGreatDoor
open Go.RowKit
section
variable {P:Program} {o:Oper} {n:Nat} {f:Nat → Value} {w:World} {d:Nat} {r:Option Nat} {m:Nat} {Q:Exit → Act → World → Prop}
end
open Go.RowKit
def YieldOk2 {α : Type} (P:Program) (w0:World) (T : α → Value → Value → List Res → Prop) (xs:List α) (l:Nat) (I Ix:List α → List Res → Prop):Prop :=
 ∀ (m:Nat) (pre:List α) (x : α) (u v:Value) (r Rf Rc:List Res) (W:World),pre ++ [x] <+: xs → I pre Rc → T x u v r → Sep w0 (r ++ (Rf ++ Rc)) W →
  YieldAt (Fz none) m P l #[u,v] W fun e W' => (e = .returned (.bool true) ∧ ∃ Rc',I (pre ++ [x]) Rc' ∧ Sep w0 (Rf ++ Rc') W') ∨ (e = .returned (.bool false) ∧ ∃ Rc',Ix (pre ++ [x]) Rc' ∧ Sep w0 (Rf ++ Rc') W')
def Iter2 {α : Type} (P:Program) (gf:FuncId) (lb:Array Value) (T : α → Value → Value → List Res → Prop) (xs:List α) (w0:World) (R:List Res):Prop :=
 ∀ (l:Nat) (I Ix:List α → List Res → Prop) (Rc:List Res) (W:World),YieldOk2 P w0 T xs l I Ix → I [] Rc → Sep w0 (R ++ Rc) W →
  Calls P gf (#[.func (.yield l) #[] #[]] ++ lb) W fun e W' => (∃ v,e = .returned v) ∧ ((∃ Rc',I xs Rc' ∧ Sep w0 (R ++ Rc') W') ∨ ∃ pre Rc',pre <+: xs ∧ Ix pre Rc' ∧ Sep w0 (R ++ Rc') W')
section
variable {P:Program} {n:Nat} {Q:Exit → Act → World → Prop} {w w0:World} {f:Nat → Value}
theorem wrange2 {α : Type} {A0:Act} {g:Operand} {p q:Nat} {assign body:Code} {R Rc:List Res} {gf:FuncId} {lb:Array Value} {T : α → Value → Value → List Res → Prop} {xs:List α}
  (hA:A0.tmps = (act n f).tmps) (hg:A0.eval g = .func (.func gf) #[] lb) (eg:∀ args w,(callFunc gf args).run P w = .ok (.enter gf args) w) (hIt:Iter2 P gf lb T xs w0 R) (hS:Sep w0 (R ++ Rc) w)
  (I:List α → List Res → Prop) (Ix:Code → List α → List Res → Prop) (h0:I [] Rc) (A:List α → α → (Nat → Value) → List Res → Prop)
  (hassign:∀ (l m:Nat) (pre:List α) (x : α) (u v:Value) (r Rf Rc:List Res) (W:World),pre ++ [x] <+: xs → I pre Rc → T x u v r → Sep w0 (r ++ (Rf ++ Rc)) W →
   CR (some l) m P assign (Exit.then (fun a W' => ∃ f' Rc',a = act n f' ∧ A pre x f' Rc' ∧ Sep w0 (Rf ++ Rc') W') (fun _ _ _ => False)) (act n (upd (upd f p u) q v)) W)
  (hbody:∀ (l m:Nat) (pre:List α) (x : α) (f':Nat → Value) (Rf Rc:List Res) (W:World),pre ++ [x] <+: xs → A pre x f' Rc → Sep w0 (Rf ++ Rc) W → CR (some l) m P body (roundEnd w0 I Ix Rf (pre ++ [x])) (act n f') W)
  (hdone:∀ (D:Nat) (Rc:List Res) (W:World),I xs Rc → Sep w0 (.obj D (.deferred (some [])) :: (R ++ Rc)) W → Q .normal (marked D A0) W)
  (hstop:∀ (D:Nat) (c:Code) (pre:List α) (Rc:List Res) (W:World),pre <+: xs → Ix c pre Rc → Sep w0 (.obj D (.deferred (some [])) :: (R ++ Rc)) W → c.wp P Q (marked D A0) W) :
  CW P (Code.rangeFunc g #[p,q] assign body) Q A0 w:=by
 refine ⟨(wpIn_wide (n:=0)).1 (wpIn_rangeFunc ?_)⟩
 intro fn _
 obtain ⟨rec,hrec⟩:∃ rec:LoopState → Option Code → Loop,rec = fun st pe => { state:=st,pending:=pe,fn,tmps:=(act n f).tmps,params:=#[p,q],assign,body,defers:=w.heap.size }:=⟨_,rfl⟩
 obtain ⟨W1,hW1⟩:∃ W1,(w.alloc (.deferred (some []))).alloc (.loop (rec .ready none)) = W1:=⟨_,rfl⟩
 have hs1:Sep w0 (.obj (w.heap.size + 1) (.loop (rec .ready none)) :: .obj w.heap.size (.deferred (some [])) :: (R ++ Rc)) W1:=by
  have h1:=(hS.addObj (.deferred (some []))).addObj (.loop (rec .ready none))
  rw [World.size_alloc,hW1] at h1
  exact h1
 have hround:∀ (st:LoopState) (pe:Option Code) (R':List Res) (W:World),Sep w0 (.obj (w.heap.size + 1) (.loop (rec st pe)) :: R') W → W.heap[w.heap.size + 1]? = some (.loop (rec st pe)):=fun st pe R' W h => h.get 0 rfl
 refine ⟨w.heap.size + 1,[{ target:=.collected w.heap.size,args:=#[] }],W1, { target:=.fn (.func gf) lb,args:=#[.func (.yield (w.heap.size + 1)) #[] #[]] },W1,gf,
  #[.func (.yield (w.heap.size + 1)) #[] #[]] ++ lb,W1,?_,?_,?_,?_,(fun h => by cases h),?_⟩
 ·rw [← hW1,hrec,hA]; exact run_enterLoop_outer _ _ _ _ _
 ·simp only [resolve,hg]
  simp [go_sem]
 ·intro f' _; trivial
 ·simp [invoke,go_sem,eg]
 refine callsIn_wide.2 ((hIt (w.heap.size + 1)
  (fun pre R' => ∃ Rc,R' = .obj (w.heap.size + 1) (.loop (rec .ready none)) :: .obj w.heap.size (.deferred (some [])) :: Rc ∧ I pre Rc)
  (fun pre R' => ∃ c Rc,R' = .obj (w.heap.size + 1) (.loop (rec .done (some c))) :: .obj w.heap.size (.deferred (some [])) :: Rc ∧ Ix c pre Rc)
  (.obj (w.heap.size + 1) (.loop (rec .ready none)) :: .obj w.heap.size (.deferred (some [])) :: Rc) W1 ?_ ⟨Rc,rfl,h0⟩ (sep_mid.2 (by
   have:=sep_mid (R1:=.obj (w.heap.size + 1) (.loop (rec .ready none)) :: R) (R2:=Rc) (x:=.obj w.heap.size (.deferred (some []))) (w0:=w0) (W:=W1)
   exact this.2 (hs1.perm (List.Perm.swap _ _ _))))).mono ?_)
 ·-- one round
  rintro m pre x u v r Rf _ W hpx ⟨Rc,rfl,hi⟩ hT hs
  have hs2:Sep w0 (.obj (w.heap.size + 1) (.loop (rec .ready none)) :: (r ++ (Rf ++ .obj w.heap.size (.deferred (some [])) :: Rc))) W:=by
   have h1:=hs
   rw [← List.append_assoc] at h1
   have h2:=sep_mid.1 h1
   rw [List.append_assoc] at h2
   exact h2
  have hl:=hround _ _ _ _ hs2
  have hy:=run_yield (P:=P) (args:=#[u,v]) hl (by rw [hrec]; rfl)
  refine ⟨_,_,_,_,hy,?_⟩
  have etm:((rec .ready none).params.zip #[u,v]).foldl (fun tmps (t,a) => tmps.setIfInBounds t a) (rec .ready none).tmps = (act n (upd (upd f p u) q v)).tmps:=by
   rw [← act_put, ← act_put,hrec]; simp [Act.put,Array.zip]
  rw [etm,show (rec .ready none).assign = assign by rw [hrec],show (rec .ready none).body = body by rw [hrec]]
  refine roundIn_of_wpIn trivial (wpIn_mono (hassign (w.heap.size + 1) m pre x u v r (.obj (w.heap.size + 1) (.loop (rec .ready none)) :: .obj w.heap.size (.deferred (some [])) :: Rf) Rc W hpx hi hT ?_).out ?_)
  ·refine hs2.perm ?_
   have p1:(r ++ (Rf ++ .obj w.heap.size (.deferred (some [])) :: Rc)).Perm (r ++ (.obj w.heap.size (.deferred (some [])) :: (Rf ++ Rc))):=List.Perm.append_left r List.perm_middle
   exact (List.Perm.cons _ p1).trans List.perm_middle.symm
  intro e a' W2 hq
  cases e with
  | normal =>
   obtain ⟨f',Rc1,rfl,hA,hs3⟩:=hq
   refine ⟨_,run_beginRound (hround _ _ _ _ hs3) (by rw [hrec]),?_⟩
   have hs4:=hs3.putObj (.loop { rec .ready none with state:=.busy })
   refine wpIn_mono (hbody (w.heap.size + 1) m pre x f' (.obj (w.heap.size + 1) (.loop { rec .ready none with state:=.busy }) :: .obj w.heap.size (.deferred (some [])) :: Rf) Rc1 _ hpx hA hs4).out ?_
   have fin:∀ (jump:Option Code) (Rc2:List Res) (W3:World),Sep w0 (.obj (w.heap.size + 1) (.loop { rec .ready none with state:=.busy }) :: .obj w.heap.size (.deferred (some [])) :: (Rf ++ Rc2)) W3 →
     ∃ W4,(Instr.endRound (w.heap.size + 1) jump).run P W3 = .ok (.bool jump.isNone) W4 ∧ Sep w0 (Rf ++ .obj (w.heap.size + 1) (.loop (rec (if jump.isNone then .ready else .done) jump)) :: .obj w.heap.size (.deferred (some [])) :: Rc2) W4:=fun jump Rc2 W3 h3 => by
    have hl3:W3.heap[w.heap.size + 1]? = some (.loop { rec .ready none with state:=.busy }):=h3.get 0 rfl
    refine ⟨_,run_endRound jump hl3,?_⟩
    have h4:=h3.putObj (.loop { { rec .ready none with state:=.busy } with state:=if jump.isNone then .ready else .done,pending:=jump })
    have e4:({ { rec .ready none with state:=.busy } with state:=if jump.isNone then .ready else .done,pending:=jump }:Loop) = rec (if jump.isNone then .ready else .done) jump:=by rw [hrec]
    rw [e4] at h4 ⊢
    refine h4.perm ?_
    exact ((List.Perm.cons _ List.perm_middle.symm).trans List.perm_middle.symm)
   intro e a3 W3 hp
   cases e with
   | normal =>
    obtain ⟨Rc2,hI,h3⟩:=hp
    obtain ⟨W4,hr,h4⟩:=fin none Rc2 W3 h3
    exact ⟨_,_,hr,.inl ⟨rfl,_,⟨Rc2,rfl,hI⟩,h4⟩⟩
   | ret =>
    obtain ⟨Rc2,hI,h3⟩:=hp
    obtain ⟨W4,hr,h4⟩:=fin (some .ret) Rc2 W3 h3
    exact ⟨_,_,hr,.inr ⟨rfl,_,⟨_,Rc2,rfl,hI⟩,h4⟩⟩
   | exit id =>
    obtain ⟨Rc2,hI,h3⟩:=hp
    obtain ⟨W4,hr,h4⟩:=fin (some (.exit id)) Rc2 W3 h3
    exact ⟨_,_,hr,.inr ⟨rfl,_,⟨_,Rc2,rfl,hI⟩,h4⟩⟩
   | goto t =>
    obtain ⟨Rc2,hI,h3⟩:=hp
    obtain ⟨W4,hr,h4⟩:=fin (some (.goto t)) Rc2 W3 h3
    exact ⟨_,_,hr,.inr ⟨rfl,_,⟨_,Rc2,rfl,hI⟩,h4⟩⟩
   | panic ch => exact hp.elim
   | outgrown => exact hp.elim
  | _ => exact hq.elim
 -- behind the iterator
 have back:∀ (r1 r2:Res) (Rc2:List Res) (W:World),Sep w0 (R ++ r1 :: r2 :: Rc2) W → Sep w0 (r1 :: r2 :: (R ++ Rc2)) W:=fun r1 r2 Rc2 W h => h.perm (List.perm_middle.trans (List.Perm.cons _ List.perm_middle))
 rintro e W2 ⟨⟨v,rfl⟩,(⟨_,⟨Rc2,rfl,hi⟩,hs⟩ | ⟨pre,_,hpre,⟨c,Rc2,rfl,hi⟩,hs⟩)⟩
 ·replace hs:=back _ _ _ _ hs
  refine ⟨none,_,by have:=run_endLoop (P:=P) (hround _ _ _ _ hs) (by rw [hrec]; simp); rw [hrec] at this; exact this,?_⟩
  exact hdone _ Rc2 _ hi ((hs.putObj _).sub (List.sublist_cons_self _ _))
 replace hs:=back _ _ _ _ hs
 refine ⟨some c,_,by have:=run_endLoop (P:=P) (hround _ _ _ _ hs) (by rw [hrec]; simp); rw [hrec] at this; exact this,?_⟩
 exact wpIn_wide.2 (hstop _ c pre Rc2 _ hpre hi ((hs.putObj _).sub (List.sublist_cons_self _ _)))
end
def marks:List Nat → Act → Act
  | [],a => a
  | D :: Ds,a => marked D (marks Ds a)
def Dpk:List Nat → Res
  | [] => .pack []
  | D :: Ds => .pack [.obj D (.deferred (some [])),Dpk Ds]
theorem marks_eval (Ds:List Nat) (a:Act):(marks Ds a).eval = a.eval:=by
  induction Ds with
  | nil => rfl
  | cons D Ds ih => exact (show (marked D (marks Ds a)).eval = (marks Ds a).eval from rfl).trans ih
theorem marks_tmps (Ds:List Nat) (a:Act):(marks Ds a).tmps = a.tmps:=by
  induction Ds with
  | nil => rfl
  | cons D Ds ih => exact (show (marked D (marks Ds a)).tmps = (marks Ds a).tmps from rfl).trans ih
theorem marks_put (Ds:List Nat) (a:Act) (x:Option Tmp) (v:Value):(marks Ds a).put x v = marks Ds (a.put x v):=by
  induction Ds with
  | nil => rfl
  | cons D Ds ih => show (marked D (marks Ds a)).put x v = marked D _; rw [put_mark,ih]
section
variable {P:Program} {n d:Nat} {Ds:List Nat} {Q:Exit → Act → World → Prop} {w w0:World} {f:Nat → Value} {o:Oper} {R:List Res}
theorem OW.marks {N K:Act → World → Prop} (hN:∀ a w,N a w → ∃ f',a = act n f' ∧ K (Go.Proofs.YtjnpdpcldmjdjaaGreatDoor.marks Ds (act n f')) w) (h:OW P o (act n f) w N (fun e a w => Q e (Go.Proofs.YtjnpdpcldmjdjaaGreatDoor.marks Ds a) w)):OW P o (Go.Proofs.YtjnpdpcldmjdjaaGreatDoor.marks Ds (act n f)) w K Q:=by
 refine ⟨?_⟩
 have h:=h.out
 unfold Oper.wp at h ⊢
 have e:execOp (Go.Proofs.YtjnpdpcldmjdjaaGreatDoor.marks Ds (act n f)).eval o = execOp (act n f).eval o:=by rw [marks_eval]
 rw [e]
 have key:∀ (x:Option Tmp) (v:Value) (w':World),N ((act n f).put x v) w' → K ((Go.Proofs.YtjnpdpcldmjdjaaGreatDoor.marks Ds (act n f)).put x v) w':=fun x v w' h => by
  obtain ⟨f',e,hk⟩:=hN _ _ h
  rw [marks_put,e]; exact hk
 generalize (execOp (act n f).eval o).run P w = x at h ⊢
 cases x with
 | ok nx w' =>
  cases nx with
  | value v => exact key _ _ _ h
  | skip => exact key _ _ _ h
  | defer dd =>
   exfalso
   obtain ⟨f',e,_⟩:=hN _ _ h
   have:=congrArg Act.defers e
   cases hd:o.dst with
   | none => rw [hd] at this; cases this
   | some t => rw [hd] at this; cases this
  | enter F args =>
   refine Calls.mono h fun e w'' h => ?_
   cases e with
   | returned v => exact key _ _ _ h
   | panicked c => exact h
   | outgrown =>
    obtain ⟨a,w1,hq⟩:=h
    exact ⟨_,w1,hq⟩
  | row row args => exact Rows.mono h fun v w'' h => key _ _ _ h
  | _ => exact h.elim
 | halt s w' =>
  cases s with
  | panic v => exact h
  | _ => exact h.elim
structure LK (Ds:List Nat) (n:Nat) (P:Program) (ops:Array Oper) (Q:Exit → Act → World → Prop) (l:List Oper) (a:Act) (w:World):Prop where
  out:∃ f',a = act n f' ∧ LW P ops Q l (marks Ds (act n f')) w
theorem kreg {id:Nat} {l:List Oper} (h:LK Ds n P l.toArray Q l (act n f) w):CW P (Code.region id l.toArray false) Q (marks Ds (act n f)) w:=by
  obtain ⟨f',e,h⟩:=h.out
  rw [e]; exact wreg h
theorem knil {ops:Array Oper} (h:Q .normal (marks Ds (act n f)) w):LK Ds n P ops Q [] (act n f) w:=⟨f,rfl,wnil h⟩
theorem marks_yielded {ops:Array Oper}:yielded ops (marks Ds (act n f)).tmps = yielded ops (act n f).tmps:=by rw [marks_tmps]
theorem kl {ops:Array Oper} {rest:List Oper} (hg:o.guard = none) (h:OW P o (act n f) w (fun a' w' => LK Ds n P ops Q rest a' w') (fun e a w => Q e (marks Ds a) w)):LK Ds n P ops Q (o :: rest) (act n f) w:=by
  refine ⟨f,rfl,⟨wpList_step fun K hK => ?_⟩⟩
  have hw:Region.wanted o (yielded ops (marks Ds (act n f)).tmps) = true:=by simp [Region.wanted,hg]
  rw [if_pos hw]
  exact Oper.wp_mono (fun a w h => hK a w h.out) (OW.marks (fun a w h => h.out) h).out
theorem kwT {c:Operand} {x y:Code} (hc:(act n f).eval c = .bool true) (h:CW P x Q (marks Ds (act n f)) w):CW P (Code.cond c x y) Q (marks Ds (act n f)) w:=⟨wp_cond_true (by rw [marks_eval]; exact hc) h.out⟩
theorem kwF {c:Operand} {x y:Code} (hc:(act n f).eval c = .bool false) (h:CW P y Q (marks Ds (act n f)) w):CW P (Code.cond c x y) Q (marks Ds (act n f)) w:=⟨wp_cond_false (by rw [marks_eval]; exact hc) h.out⟩
theorem kact_sets {l:List (Nat × Value)} (h:AllAt f l):marks Ds (act n f) = marks Ds (act n (sets f l)):=by rw [sets_self h]
theorem kret1 {D2 D1:Nat} {fn:Func} {r:ResultVar} {v:Value} {E:Ending → World → Prop} (hr:fn.results = #[r]) (hS:Sep w0 (Dpk [D2,D1] :: R) w) (h1:∀ w',Sep w0 R w' → Tells P n f w' r v) (h:∀ w',Sep w0 R w' → E (.returned v) w'):postM P fn E .ret (marks [D2,D1] (act n f)) w:=by
  have hs0:Sep w0 (.obj D2 (.deferred (some [])) :: Dpk [D1] :: R) w:=Sep.unpack (rs:=[.obj D2 (.deferred (some [])),Dpk [D1]]) hS
  have hs1:=(hs0.putObj (.deferred none)).sub (List.sublist_cons_self _ _)
  have hs2:Sep w0 (.obj D1 (.deferred (some [])) :: Dpk [] :: R) (w.putObj D2 (.deferred none)):=Sep.unpack (rs:=[.obj D1 (.deferred (some [])),Dpk []]) hs1
  have hs3:=(hs2.putObj (.deferred none)).sub ((List.sublist_cons_self _ _).trans (List.sublist_cons_self _ _))
  obtain ⟨_,x⟩:=(wr1 hr (h1 _ hs3) (h _ hs3):bodyPost P fn E .ret (act n f) ((w.putObj D2 (.deferred none)).putObj D1 (.deferred none)))
  exact ⟨by simp [Go.Proofs.YtjnpdpcldmjdjaaGreatDoor.marks,marked,act],.inl ⟨D2,_,rfl,run_takeDeferred (hs0.get 0 rfl),by simp [Go.Proofs.YtjnpdpcldmjdjaaGreatDoor.marks,marked,act],.inl ⟨D1,_,rfl,run_takeDeferred (hs2.get 0 rfl),x⟩⟩⟩
end
open Go.RowKit
structure LateI (n:Nat) (Ds:List Nat) (r9:Option Nat) (mm:Nat) (P:Program) (ops:Array Oper) (Q:Exit → Act → World → Prop) (Bl:List (Nat × List Value × TypeId)) (j:Nat) (a:Act) (w:World):Prop where
  out:∃ f',a = act n f' ∧ ∀ fuel listed,ops.size ≤ fuel + j → listed.size = ops.size → (∀ i,i < ops.size → Up listed i = Nat.blt i j) → wpAnyIn (Fz r9) mm P .any ops Q fuel listed (marks Ds a) w
section
variable {P:Program} {ops:Array Oper} {Q:Exit → Act → World → Prop} {n:Nat} {w0:World} {r9:Option Nat} {mm:Nat} {Ds:List Nat}
theorem LateI.here {Bl:List (Nat × List Value × TypeId)} {j:Nat} {a:Act} {w:World} (h:LateI n Ds r9 mm P ops Q Bl j a w):∀ fuel listed,ops.size ≤ fuel + j → listed.size = ops.size → (∀ i,i < ops.size → Up listed i = Nat.blt i j) → wpAnyIn (Fz r9) mm P .any ops Q fuel listed (marks Ds a) w:=by
  obtain ⟨_,_,h⟩:=h.out; exact h
theorem oboxN {ty:TypeId} {x:Operand} {v:Value} {o:Oper} {f:Nat → Value} {w:World} {d:Nat} {K:Act → World → Prop} (cs:List Value) (hop:o.op = .box ty x) (ho:o.dst = some d) (hx:(act n f).eval x = v) (hcs:v.cells = cs.toArray)
  (hK:K (act n (upd f d (.pointer (some ⟨w.heap.size,0,none⟩)))) (w.alloc (.cells cs.toArray ty))):OW P o (act n f) w K Q:=by
 refine ⟨?_⟩
 unfold Oper.wp
 simp [execOp,hop,hx,Instr.box,newVar,newRow,hcs]
 rw [Oper.upon_value,ho,act_put]
 exact hK
def lateG (ops:Array Oper) (j:Nat):Bool :=
  (match ops[j]? with | some o => true && (needs o).all (fun i => Nat.blt i j) | none => false) &&
  (List.range ops.size).all fun k => Nat.ble k j || match ops[k]? with | some o => (needs o).any (fun i => Nat.ble j i) | none => true
theorem ilate {l:List Oper} {Bl:List (Nat × List Value × TypeId)} {w:World} {f:Nat → Value} (j:Nat) {o:Oper} (ho:l.toArray[j]? = some o) (hB:lateB l.toArray j = true) (hd:noDefer o = true) (h:OW P o (act n f) w (fun a' w' => HeldS Bl w' ∧ LateI n Ds r9 mm P l.toArray Q Bl (j + 1) a' w') (fun e a w => Q e (marks Ds a) w)):LateI n Ds r9 mm P l.toArray Q Bl j (act n f) w:=by
 refine ⟨f,rfl,?_⟩
 intro fuel listed hfuel hsz hup
 have hj:j < l.toArray.size:=(Array.getElem?_eq_some_iff.1 ho).1
 unfold lateB at hB
 rw [Bool.and_eq_true,ho] at hB
 obtain ⟨h1,h2⟩:=hB
 simp only [Bool.and_eq_true] at h1
 have hblt:∀ i k,Nat.blt i k = true ↔ i < k:=fun i k => by rw [Nat.blt_eq]
 have huj:Up listed j = false:=by
  rw [hup j hj]
  cases e:Nat.blt j j with
  | false => rfl
  | true => rw [hblt] at e; omega
 have hready:Region.ready .any l.toArray listed = [j]:=by
  have hmem:∀ i,i ∈ Region.ready .any l.toArray listed → i = j:=fun i hi => by
   obtain ⟨hu,o2,ho2,hall⟩:=mem_ready.1 hi
   have hil:i < l.toArray.size:=(Array.getElem?_eq_some_iff.1 ho2).1
   have hu':Up listed i = false:=(getD_same (by omega)).symm.trans hu
   rw [hup i hil] at hu'
   have hji:j ≤ i:=by
    rcases Nat.lt_or_ge i j with h | h
    ·rw [(hblt i j).2 h] at hu'; cases hu'
    exact h
   have h3:=List.all_eq_true.1 h2 i (List.mem_range.2 hil)
   rw [ho2] at h3
   rcases Bool.or_eq_true_iff.1 h3 with h3 | h3
   ·have:=Nat.le_of_ble_eq_true h3; omega
   obtain ⟨k,hk,hjk⟩:=List.any_eq_true.1 h3
   have hjk':=Nat.le_of_ble_eq_true hjk
   obtain ⟨e,he,hb,rfl⟩:=mem_needs.1 hk
   have hl:Up listed e.on = true:=hall e he hb
   have hel:e.on < l.toArray.size:=by
    rcases Nat.lt_or_ge e.on listed.size with h | h
    ·omega
    unfold Up at hl; simp [Array.getD,Nat.not_lt.2 h] at hl
   rw [hup e.on hel,hblt] at hl
   omega
  have hjm:j ∈ Region.ready .any l.toArray listed:=mem_ready.2 ⟨(getD_same (by omega)).trans huj,o,ho,fun e he hb => by
   have h4:=List.all_eq_true.1 h1.2 e.on (mem_needs.2 ⟨e,he,hb,rfl⟩)
   have h5:=(hblt _ _).1 h4
   have:Up listed e.on = true:=by rw [hup e.on (by omega)]; exact h4
   exact this⟩
  have hn:(Region.ready .any l.toArray listed).Nodup:=(List.nodup_range).sublist List.filter_sublist
  revert hmem hjm hn
  generalize Region.ready .any l.toArray listed = L
  intro hmem hjm hn
  match L,hmem,hjm,hn with
  | [],_,hjm,_ => cases hjm
  | [x],hmem,_,_ => rw [hmem x List.mem_cons_self]
  | x :: y :: L,hmem,_,hn =>
   have e1:=hmem x List.mem_cons_self
   have e2:=hmem y (List.mem_cons_of_mem _ List.mem_cons_self)
   have:=(List.nodup_cons.1 hn).1
   rw [e1,e2] at this
   exact absurd List.mem_cons_self this
 obtain ⟨fuel,rfl⟩:∃ k,fuel = k + 1:=⟨fuel - 1,by omega⟩
 refine ⟨fun hnil => (by rw [hready] at hnil; cases hnil),fun i hi => ?_⟩
 rw [hready] at hi
 obtain rfl:=List.mem_singleton.1 hi
 have hg:o.guard = none:=by simpa using h1.1
 unfold wpOpIn
 rw [ho]
 have hw:Region.wanted o (yielded l.toArray (marks Ds (act n f)).tmps) = true:=by simp [Region.wanted,hg]
 simp only [hw,if_true]
 refine OW.inn hd (OW.marks (fun a' w' h' => ?_) h)
 obtain ⟨_,f2,rfl,h'⟩:=h'
 refine ⟨f2,rfl,?_⟩
 refine h' fuel _ (by omega) (by simp [hsz]) (fun k hk => ?_)
 rw [up_set (by omega)]
 show (Up listed k || k == i) = Nat.blt k (i + 1)
 rw [hup k hk,Bool.eq_iff_iff,Bool.or_eq_true,hblt,hblt]
 simp
 omega
theorem ilateOn {l:List Oper} {Bl:List (Nat × List Value × TypeId)} {w:World} {f:Nat → Value} (j:Nat) {o:Oper} (ho:l.toArray[j]? = some o) (hB:lateG l.toArray j = true) {g e:Nat} {b:Bool} (hg:o.guard = some (g,b)) (hs:(l.toArray[g]?).bind (·.dst) = some e) (hdl:Nat.blt e n = true) (hv:f e = .bool b) (hd:noDefer o = true) (h:OW P o (act n f) w (fun a' w' => HeldS Bl w' ∧ LateI n Ds r9 mm P l.toArray Q Bl (j + 1) a' w') (fun e a w => Q e (marks Ds a) w)):LateI n Ds r9 mm P l.toArray Q Bl j (act n f) w:=by
 refine ⟨f,rfl,?_⟩
 intro fuel listed hfuel hsz hup
 have hj:j < l.toArray.size:=(Array.getElem?_eq_some_iff.1 ho).1
 unfold lateG at hB
 rw [Bool.and_eq_true,ho] at hB
 obtain ⟨h1,h2⟩:=hB
 simp only [Bool.and_eq_true] at h1
 have hblt:∀ i k,Nat.blt i k = true ↔ i < k:=fun i k => by rw [Nat.blt_eq]
 have huj:Up listed j = false:=by
  rw [hup j hj]
  cases e:Nat.blt j j with
  | false => rfl
  | true => rw [hblt] at e; omega
 have hready:Region.ready .any l.toArray listed = [j]:=by
  have hmem:∀ i,i ∈ Region.ready .any l.toArray listed → i = j:=fun i hi => by
   obtain ⟨hu,o2,ho2,hall⟩:=mem_ready.1 hi
   have hil:i < l.toArray.size:=(Array.getElem?_eq_some_iff.1 ho2).1
   have hu':Up listed i = false:=(getD_same (by omega)).symm.trans hu
   rw [hup i hil] at hu'
   have hji:j ≤ i:=by
    rcases Nat.lt_or_ge i j with h | h
    ·rw [(hblt i j).2 h] at hu'; cases hu'
    exact h
   have h3:=List.all_eq_true.1 h2 i (List.mem_range.2 hil)
   rw [ho2] at h3
   rcases Bool.or_eq_true_iff.1 h3 with h3 | h3
   ·have:=Nat.le_of_ble_eq_true h3; omega
   obtain ⟨k,hk,hjk⟩:=List.any_eq_true.1 h3
   have hjk':=Nat.le_of_ble_eq_true hjk
   obtain ⟨e,he,hb,rfl⟩:=mem_needs.1 hk
   have hl:Up listed e.on = true:=hall e he hb
   have hel:e.on < l.toArray.size:=by
    rcases Nat.lt_or_ge e.on listed.size with h | h
    ·omega
    unfold Up at hl; simp [Array.getD,Nat.not_lt.2 h] at hl
   rw [hup e.on hel,hblt] at hl
   omega
  have hjm:j ∈ Region.ready .any l.toArray listed:=mem_ready.2 ⟨(getD_same (by omega)).trans huj,o,ho,fun e he hb => by
   have h4:=List.all_eq_true.1 h1.2 e.on (mem_needs.2 ⟨e,he,hb,rfl⟩)
   have h5:=(hblt _ _).1 h4
   have:Up listed e.on = true:=by rw [hup e.on (by omega)]; exact h4
   exact this⟩
  have hn:(Region.ready .any l.toArray listed).Nodup:=(List.nodup_range).sublist List.filter_sublist
  revert hmem hjm hn
  generalize Region.ready .any l.toArray listed = L
  intro hmem hjm hn
  match L,hmem,hjm,hn with
  | [],_,hjm,_ => cases hjm
  | [x],hmem,_,_ => rw [hmem x List.mem_cons_self]
  | x :: y :: L,hmem,_,hn =>
   have e1:=hmem x List.mem_cons_self
   have e2:=hmem y (List.mem_cons_of_mem _ List.mem_cons_self)
   have:=(List.nodup_cons.1 hn).1
   rw [e1,e2] at this
   exact absurd List.mem_cons_self this
 obtain ⟨fuel,rfl⟩:∃ k,fuel = k + 1:=⟨fuel - 1,by omega⟩
 refine ⟨fun hnil => (by rw [hready] at hnil; cases hnil),fun i hi => ?_⟩
 rw [hready] at hi
 obtain rfl:=List.mem_singleton.1 hi
 unfold wpOpIn
 rw [ho]
 have hw:Region.wanted o (yielded l.toArray (marks Ds (act n f)).tmps) = true:=by rw [marks_yielded]; exact want_on hg hs hdl hv
 simp only [hw,if_true]
 refine OW.inn hd (OW.marks (fun a' w' h' => ?_) h)
 obtain ⟨_,f2,rfl,h'⟩:=h'
 refine ⟨f2,rfl,?_⟩
 refine h' fuel _ (by omega) (by simp [hsz]) (fun k hk => ?_)
 rw [up_set (by omega)]
 show (Up listed k || k == i) = Nat.blt k (i + 1)
 rw [hup k hk,Bool.eq_iff_iff,Bool.or_eq_true,hblt,hblt]
 simp
 omega
theorem iyield {l:List Oper} {Bl:List (Nat × List Value × TypeId)} {w:World} {f:Nat → Value} (j:Nat) {o:Oper} (ho:l.toArray[j]? = some o) (hB:lateB l.toArray j = true) {c:Call} {x:Operand} {xs:Array Operand} {ts:Array TypeId} {vs:Array Value} {Rp:Ending → World → Prop} {d l9:Nat} (hop:o.op = .call c) (hc:c = { callee:=.value x,args:=xs,argTypes:=ts }) (hod:o.dst = some d)
  (hv:(act n f).eval x = .func (.yield l9) #[] #[]) (hx:xs.map (act n f).eval = vs) (hY:YieldAt (Fz r9) (mm - 1) P l9 vs w Rp)
  (hK:∀ e w',Rp e w' → ∃ v,e = .returned v ∧ LateI n [] r9 mm P l.toArray Q Bl (j + 1) (act n (upd f d v)) w'):LateI n [] r9 mm P l.toArray Q Bl j (act n f) w:=by
 refine ⟨f,rfl,?_⟩
 intro fuel listed hfuel hsz hup
 have hj:j < l.toArray.size:=(Array.getElem?_eq_some_iff.1 ho).1
 unfold lateB at hB
 rw [Bool.and_eq_true,ho] at hB
 obtain ⟨h1,h2⟩:=hB
 simp only [Bool.and_eq_true] at h1
 have hblt:∀ i k,Nat.blt i k = true ↔ i < k:=fun i k => by rw [Nat.blt_eq]
 have huj:Up listed j = false:=by
  rw [hup j hj]
  cases e:Nat.blt j j with
  | false => rfl
  | true => rw [hblt] at e; omega
 have hready:Region.ready .any l.toArray listed = [j]:=by
  have hmem:∀ i,i ∈ Region.ready .any l.toArray listed → i = j:=fun i hi => by
   obtain ⟨hu,o2,ho2,hall⟩:=mem_ready.1 hi
   have hil:i < l.toArray.size:=(Array.getElem?_eq_some_iff.1 ho2).1
   have hu':Up listed i = false:=(getD_same (by omega)).symm.trans hu
   rw [hup i hil] at hu'
   have hji:j ≤ i:=by
    rcases Nat.lt_or_ge i j with h | h
    ·rw [(hblt i j).2 h] at hu'; cases hu'
    exact h
   have h3:=List.all_eq_true.1 h2 i (List.mem_range.2 hil)
   rw [ho2] at h3
   rcases Bool.or_eq_true_iff.1 h3 with h3 | h3
   ·have:=Nat.le_of_ble_eq_true h3; omega
   obtain ⟨k,hk,hjk⟩:=List.any_eq_true.1 h3
   have hjk':=Nat.le_of_ble_eq_true hjk
   obtain ⟨e,he,hb,rfl⟩:=mem_needs.1 hk
   have hl:Up listed e.on = true:=hall e he hb
   have hel:e.on < l.toArray.size:=by
    rcases Nat.lt_or_ge e.on listed.size with h | h
    ·omega
    unfold Up at hl; simp [Array.getD,Nat.not_lt.2 h] at hl
   rw [hup e.on hel,hblt] at hl
   omega
  have hjm:j ∈ Region.ready .any l.toArray listed:=mem_ready.2 ⟨(getD_same (by omega)).trans huj,o,ho,fun e he hb => by
   have h4:=List.all_eq_true.1 h1.2 e.on (mem_needs.2 ⟨e,he,hb,rfl⟩)
   have h5:=(hblt _ _).1 h4
   have:Up listed e.on = true:=by rw [hup e.on (by omega)]; exact h4
   exact this⟩
  have hn:(Region.ready .any l.toArray listed).Nodup:=(List.nodup_range).sublist List.filter_sublist
  revert hmem hjm hn
  generalize Region.ready .any l.toArray listed = L
  intro hmem hjm hn
  match L,hmem,hjm,hn with
  | [],_,hjm,_ => cases hjm
  | [x],hmem,_,_ => rw [hmem x List.mem_cons_self]
  | x :: y :: L,hmem,_,hn =>
   have e1:=hmem x List.mem_cons_self
   have e2:=hmem y (List.mem_cons_of_mem _ List.mem_cons_self)
   have:=(List.nodup_cons.1 hn).1
   rw [e1,e2] at this
   exact absurd List.mem_cons_self this
 obtain ⟨fuel,rfl⟩:∃ k,fuel = k + 1:=⟨fuel - 1,by omega⟩
 refine ⟨fun hnil => (by rw [hready] at hnil; cases hnil),fun i hi => ?_⟩
 rw [hready] at hi
 obtain rfl:=List.mem_singleton.1 hi
 have hg:o.guard = none:=by simpa using h1.1
 unfold wpOpIn
 rw [ho]
 have hw:Region.wanted o (yielded l.toArray (marks [] (act n f)).tmps) = true:=by simp [Region.wanted,hg]
 simp only [hw,if_true]
 refine ⟨fun _ _ => trivial,?_⟩
 rw [Oper.semAt_eq _ _ _ (fun c' hc' => by rw [hop] at hc'; cases hc')]
 obtain ⟨fn,tmps,assign,body,hy,hR⟩:=hY
 have e:(execOp (act n f).eval o).run P w = .ok (.round l9 fn tmps assign body) w:=by
  subst hc
  simp only [execOp,hop,resolve,hx,hv]
  simp [Deferred.ofValue,invoke,hy]
 rw [show execOp (marks [] (act n f)).eval o = execOp (act n f).eval o from rfl,e,Oper.uponIn_round]
 refine ⟨fun h => (by cases h),hR.mono fun e w' h => ?_⟩
 obtain ⟨v,rfl,h'⟩:=hK e w' h
 show wpAnyIn _ _ _ _ _ _ _ _ ((act n f).put o.dst v) w'
 rw [hod,act_put]
 refine h'.here fuel _ (by omega) (by simp [hsz]) (fun k hk => ?_)
 rw [up_set (by omega)]
 show (Up listed k || k == i) = Nat.blt k (i + 1)
 rw [hup k hk,Bool.eq_iff_iff,Bool.or_eq_true,hblt,hblt]
 simp
 omega
theorem idone {l:List Oper} {Bl:List (Nat × List Value × TypeId)} {f:Nat → Value} {w:World} {j:Nat} (hj:l.toArray.size = j) (h:Q .normal (marks Ds (act n f)) w):LateI n Ds r9 mm P l.toArray Q Bl j (act n f) w:=by
 refine ⟨f,rfl,?_⟩
 intro fuel listed _ hsz hup
 have hnil:Region.ready .any l.toArray listed = []:=by
  rcases hr:Region.ready .any l.toArray listed with _ | ⟨i,L⟩
  ·rfl
  exfalso
  have hi:i ∈ Region.ready .any l.toArray listed:=by rw [hr]; exact List.mem_cons_self
  obtain ⟨hu,o2,ho2,_⟩:=mem_ready.1 hi
  have hil:i < l.toArray.size:=(Array.getElem?_eq_some_iff.1 ho2).1
  have hu':Up listed i = false:=(getD_same (by omega)).symm.trans hu
  rw [hup i hil,show Nat.blt i j = true by rw [Nat.blt_eq]; omega] at hu'
  cases hu'
 cases fuel with
 | zero => exact ⟨hnil,h⟩
 | succ k => exact ⟨fun _ => h,by rw [hnil]; intro i hi; cases hi⟩
theorem idone0 {l:List Oper} {Bl:List (Nat × List Value × TypeId)} {f:Nat → Value} {w:World} {j:Nat} (hj:l.toArray.size = j) (h:Q .normal (act n f) w):LateI n [] r9 mm P l.toArray Q Bl j (act n f) w:=idone hj h
theorem istage_go {f:Nat → Value} {R0:List Res} {m:Nat} {ds:List Nat} {nd sr:List (List Nat)} {pu:List Nat} {Bl:List (Nat × List Value × TypeId)} {T:Nat → List Value → Tell} {a9:Nat} (hpu:pu = []) (hd:∀ (i:Nat) o,ops[i]? = some o → noDefer o = true) (hst:stageB ops ds nd sr pu m = true)
  (hstep:∀ i o,a9 ≤ i → i < m → ops[i]? = some o → StepOk P ops n f ds nd sr Bl T w0 R0 i o)
  (hend:∀ (vs:Nat → Value) (ρ : Nat → List Res) (w':World) (f':Nat → Value),f' = layf vs ds 0 f → (∀ i,i < m → T i ((sr.getD i []).map fun l => vs l) (vs i) (ρ i)) → Sep w0 (pool (fun _ => true) ρ m ++ R0) w' → LateI n Ds r9 mm P ops Q Bl m (act n f') w') :
  ∀ (todo fuel:Nat) (listed:Array Bool) (f':Nat → Value) (w':World) (ρ : Nat → List Res),listed.size = ops.size → (∀ i,i < a9 → Up listed i = true) → ((List.range m).countP fun i => !Up listed i) = todo → ops.size + todo ≤ fuel + m → (∀ i,m ≤ i → Up listed i = false) →
   (∀ i,Up listed i = true → ∀ o,ops[i]? = some o → ∀ j ∈ needs o,Up listed j = true) → (∀ d,ds.contains d = false → f' d = f d) → (∀ i d,i < m → Up listed i = true → ds[i]? = some d → T i ((sr.getD i []).map fun l => f' (ds.getD l 0)) (f' d) (ρ i)) → Sep w0 (pool (Up listed) ρ m ++ R0) w' → HeldS Bl w' →
   wpAnyIn (Fz r9) mm P .any ops Q fuel listed (marks Ds (act n f')) w':=by
 have h6:∀ i ∈ pu, ∀ o,ops[i]? = some o → ∀ j oj,ops[j]? = some oj → j ≠ i → (m ≤ j ∨ j ∈ pu) → i ∈ needs oj ∨ o.apart ops oj = true:=by
  unfold stageB at hst
  simp only [Bool.and_eq_true] at hst
  intro i hi o ho j oj hoj hji hj
  have h:=List.all_eq_true.1 hst.2 i hi
  rw [ho] at h
  have h':=List.all_eq_true.1 h j (List.mem_range.2 (Array.getElem?_eq_some_iff.1 hoj).1)
  rw [hoj] at h'
  simp only [Bool.or_eq_true,Bool.and_eq_true] at h'
  rcases h' with (h' | h') | h'
  ·exact absurd (by simpa using h') hji
  ·exfalso
   rw [Nat.blt_eq] at h'
   rcases hj with hj | hj
   ·omega
   have:=h'.2; simp at this; exact this hj
  exact h'.imp (fun h => by simpa using h) id
 obtain ⟨⟨⟨⟨h1,h2⟩,h3⟩,h4⟩,h5⟩:(((ds.length = m ∧ m ≤ ops.size) ∧ ds.Nodup) ∧ (∀ i,i < m → ∃ o,ops[i]? = some o ∧ o.dst = ds[i]? ∧ (∀ k ∈ nd.getD i [],k ∈ needs o ∨ ∃ j ∈ needs o,k ∈ nd.getD j []) ∧ (nd.getD i []).Nodup ∧ (∀ j ∈ sr.getD i [],j ∈ nd.getD i [] ∧ j < i) ∧ (∀ j ∈ nd.getD i [],j < i) ∧ ∀ j ∈ needs o,j < i)) ∧ (∀ j,m ≤ j → ∀ o,ops[j]? = some o → (∃ k ∈ needs o,m ≤ k) ∨ ∀ i,i < m → pu.contains i = true ∨ i ∈ needs o ∨ ∃ j ∈ needs o,i ∈ nd.getD j []):=by
  unfold stageB at hst
  simp only [Bool.and_eq_true] at hst
  obtain ⟨⟨⟨⟨⟨h1,h2⟩,h3⟩,h4⟩,h5⟩,_⟩:=hst
  refine ⟨⟨⟨⟨by simpa using h1,Nat.le_of_ble_eq_true h2⟩,of_decide_eq_true h3⟩,fun i hi => ?_⟩,fun j hj o ho => ?_⟩
  ·have h:=List.all_eq_true.1 h4 i (List.mem_range.2 hi)
   cases ho:ops[i]? with
   | none => rw [ho] at h; cases h
   | some o =>
    rw [ho] at h
    simp only [Bool.and_eq_true] at h
    obtain ⟨⟨⟨⟨⟨a1,a2⟩,a3⟩,a4⟩,a5⟩,a6⟩:=h
    refine ⟨o,rfl,by simpa using a1,fun j hj => by simpa using List.all_eq_true.1 a2 j hj,of_decide_eq_true a3,fun j hj => ?_,fun j hj => ?_,fun j hj => ?_⟩
    ·have:=List.all_eq_true.1 a4 j hj
     rw [Bool.and_eq_true,Nat.blt_eq] at this
     exact ⟨by simpa using this.1,this.2⟩
    ·have:=List.all_eq_true.1 a5 j hj
     rw [Nat.blt_eq] at this
     exact this
    have:=List.all_eq_true.1 a6 j hj
    rw [Nat.blt_eq] at this
    exact this
  have h:=List.all_eq_true.1 h5 j (List.mem_range.2 (Array.getElem?_eq_some_iff.1 ho).1)
  have hb:Nat.blt j m = false:=by
   cases e:Nat.blt j m with
   | false => rfl
   | true => rw [Nat.blt_eq] at e; omega
  rw [hb,Bool.false_or,ho] at h
  rcases Bool.or_eq_true_iff.1 h with h | h
  ·obtain ⟨k,hk,hle⟩:=List.any_eq_true.1 h
   exact .inl ⟨k,hk,Nat.le_of_ble_eq_true hle⟩
  refine .inr fun i hi => ?_
  have h9:=List.all_eq_true.1 h i (List.mem_range.2 hi)
  simp only [Bool.or_eq_true] at h9
  rcases h9 with (h9 | h9) | h9
  ·exact .inl h9
  ·exact .inr (.inl (by simpa using h9))
  obtain ⟨j,hj,h10⟩:=List.any_eq_true.1 h9
  exact .inr (.inr ⟨j,hj,by simpa using h10⟩)
 have anc:∀ (L:Nat → Bool),(∀ i,L i = true → ∀ o,ops[i]? = some o → ∀ j ∈ needs o,L j = true) → ∀ i,i < m → ∀ o,ops[i]? = some o → (∀ j ∈ needs o,L j = true) → ∀ k ∈ nd.getD i [],L k = true:=by
  intro L hc i
  induction i using Nat.strongRecOn with
  | _ i ih =>
   intro hi o ho hn k hk
   obtain ⟨o',ho',_,hnd0,_,_,_,hlt⟩:=h4 i hi
   obtain rfl:o' = o:=by rw [ho] at ho'; exact (Option.some.inj ho').symm
   rcases hnd0 k hk with h | ⟨j,hj,hkj⟩
   ·exact hn k h
   have hjm:=hlt j hj
   obtain ⟨oj,hoj,_⟩:=h4 j (by omega)
   exact ih j hjm (by omega) oj hoj (hc j (hn j hj) oj hoj) k hkj
 intro todo
 induction todo with
 | zero =>
  intro fuel listed f' w' ρ hsz hlow htodo hfuel hlate hclosed hother htold hsep hBl
  have hall:∀ i,i < m → Up listed i = true:=fun i hi => by
   have:=(List.countP_eq_zero.1 htodo) i (List.mem_range.2 hi)
   simpa using this
  refine hend (fun i => f' (ds.getD i 0)) ρ w' f' (layf_ext h3 (fun d hd => hother d (by simpa using hd)) (fun i d hid => by simp [List.getD,hid])).symm (fun i hi => ?_) (by rw [pool_all ρ _ m hall] at hsep; exact hsep) |>.here fuel listed (by omega) hsz (fun i _ => ?_)
  ·obtain ⟨d,hd⟩:∃ d,ds[i]? = some d:=⟨_,List.getElem?_eq_getElem (by omega)⟩
   have:=htold i d hi (hall i hi) hd
   simpa [List.getD,hd] using this
  rcases Nat.lt_or_ge i m with hi | hi
  ·rw [hall i hi]; exact ((Nat.blt_eq).mpr hi).symm
  rw [hlate i hi]
  cases e:Nat.blt i m with
  | false => rfl
  | true => rw [Nat.blt_eq] at e; omega
 | succ k ih =>
  intro fuel listed f' w' ρ hsz hlow htodo hfuel hlate hclosed hother htold hsep hBl
  obtain ⟨fuel,rfl⟩:∃ k,fuel = k + 1:=⟨fuel - 1,by omega⟩
  have hex:∃ i,i < m ∧ Up listed i = false:=by
   rcases Classical.em (∃ i,i < m ∧ Up listed i = false) with h | h
   ·exact h
   exfalso
   have:((List.range m).countP fun i => !Up listed i) = 0:=List.countP_eq_zero.2 fun i hi => by
    cases e:Up listed i with
    | true => simp
    | false => exact absurd ⟨i,List.mem_range.1 hi,e⟩ h
   omega
  have hready:∀ i,i ∈ Region.ready .any ops listed → Up listed i = false ∧ ∃ o,ops[i]? = some o ∧ ∀ j ∈ needs o,Up listed j = true:=fun i hi => by
   obtain ⟨hu,o,ho,hall⟩:=mem_ready.1 hi
   have hlt:i < listed.size:=by have:=(Array.getElem?_eq_some_iff.1 ho).1; omega
   exact ⟨(getD_same hlt).symm.trans hu,o,ho,fun j hj => by obtain ⟨e,he,hb,rfl⟩:=mem_needs.1 hj; exact hall e he hb⟩
  have core:∀ i o,ops[i]? = some o → i < m → Up listed i = false → (∀ j ∈ needs o,Up listed j = true) →
    o.dst = ds[i]? ∧ ds[i]? = some (ds.getD i 0) ∧ (∃ S,Sep w0 (R0 ++ ((nd.getD i []).flatMap ρ ++ S)) w') ∧ (∀ j d,(nd.getD i []).contains j = true → ds[j]? = some d → T j ((sr.getD j []).map fun l => f' (ds.getD l 0)) (f' d) (ρ j)) ∧
    ∀ (v:Value) (r:List Res) (w'':World),T i ((sr.getD i []).map fun l => f' (ds.getD l 0)) v r → New w' r w'' → HeldS Bl w'' ∧ wpAnyIn (Fz r9) mm P .any ops Q fuel (listed.setIfInBounds i true) (marks Ds (act n (upd f' (ds.getD i 0) v))) w'':=by
   intro i o ho him hu hneed
   obtain ⟨o',ho',hdst,hnd0,hnd,hsr,hndlt,hlt⟩:=h4 i him
   obtain rfl:o' = o:=by rw [ho] at ho'; exact (Option.some.inj ho').symm
   have hil:i < ds.length:=by omega
   have hdi:ds[i]? = some (ds.getD i 0):=by simp [List.getD,hil]
   have hanc:∀ j ∈ nd.getD i [],Up listed j = true:=anc (Up listed) hclosed i him o' ho hneed
   obtain ⟨S,hS⟩:=pool_some (L:=Up listed) (ρ := ρ) (m:=m) (nd.getD i []) hnd (fun j hj => ⟨Nat.lt_trans (hndlt j hj) him,hanc j hj⟩)
   have hsep':Sep w0 (R0 ++ ((nd.getD i []).flatMap ρ ++ S)) w':=hsep.perm ((List.Perm.append_right R0 hS.symm).trans List.perm_append_comm)
   have hmemc:∀ d,d ∉ ds ↔ ds.contains d = false:=fun d => by simp
   refine ⟨hdst,hdi,⟨S,hsep'⟩,fun j d hj hd => have hj':j ∈ nd.getD i []:=(by simpa using hj); htold j d (Nat.lt_trans (hndlt j hj') him) (hanc j hj') hd,?_⟩
   -- behind the step
   show ∀ (v:Value) (r:List Res) (w'':World),T i ((sr.getD i []).map fun l => f' (ds.getD l 0)) v r → New w' r w'' → HeldS Bl w'' ∧ wpAnyIn (Fz r9) mm P .any ops Q fuel (listed.setIfInBounds i true) (marks Ds (act n (upd f' (ds.getD i 0) v))) w''
   intro v r w'' hT hN
   refine ⟨hBl.grow hN.below,?_⟩
   have his:i < listed.size:=by have:=(Array.getElem?_eq_some_iff.1 ho).1; omega
   have hup:=up_set (listed:=listed) his
   refine ih fuel (listed.setIfInBounds i true) (upd f' (ds.getD i 0) v) w'' (fun j => if j = i then r else ρ j) (by simp [hsz]) (fun j hj => by rw [hup]; show (Up listed j || j == i) = true; rw [hlow j hj]; rfl) ?_ (by omega) ?_ ?_ ?_ ?_ ?_ (hBl.grow hN.below)
   ·rw [hup]
    have e:=count_less (L:=Up listed) (i:=i) hu (List.range m) List.nodup_range (List.mem_range.2 him)
    show ((List.range m).countP fun j => !(Up listed j || j == i)) = k
    omega
   ·intro j hj
    rw [hup]
    have:(j == i) = false:=by simp; omega
    simp [hlate j hj,this]
   ·intro j hj o2 ho2 l hl
    rw [hup] at hj ⊢
    simp only [Bool.or_eq_true] at hj ⊢
    rcases hj with hj | hj
    ·exact .inl (hclosed j hj o2 ho2 l hl)
    have:j = i:=by simpa using hj
    subst this
    rw [ho] at ho2
    obtain rfl:=Option.some.inj ho2
    exact .inl (hneed l hl)
   ·intro d hd
    have hne:d ≠ ds.getD i 0:=fun e => by
     have:ds.getD i 0 ∈ ds:=List.mem_of_getElem? hdi
     rw [← e] at this
     exact (hmemc d).2 hd this
    rw [upd_ne _ _ hne]; exact hother d hd
   ·intro j d hj hup' hjd
    have hsrc:∀ j,(∀ l ∈ sr.getD j [],l < m ∧ l ≠ i) → ((sr.getD j []).map fun l => upd f' (ds.getD i 0) v (ds.getD l 0)) = ((sr.getD j []).map fun l => f' (ds.getD l 0)):=fun j hj => List.map_congr_left fun l hl => by
     obtain ⟨hlm,hli⟩:=hj l hl
     have hlds:l < ds.length:=by omega
     refine upd_ne _ _ fun e9 => ?_
     have e1:ds[l] = ds[i]:=by simpa [List.getD,hlds,hil] using e9
     rcases Nat.lt_or_gt_of_ne hli with hlt' | hlt'
     ·exact (List.pairwise_iff_getElem.1 h3 l i hlds hil hlt') e1
     exact (List.pairwise_iff_getElem.1 h3 i l hil hlds hlt') e1.symm
    rw [hup] at hup'
    replace hup':(Up listed j || j == i) = true:=hup'
    by_cases e:j = i
    ·subst e
     rw [hdi] at hjd
     obtain rfl:=Option.some.inj hjd
     rw [upd_same,if_pos rfl,hsrc j (fun l hl => ⟨Nat.lt_trans (hsr l hl).2 him,Nat.ne_of_lt (hsr l hl).2⟩)]; exact hT
    have hne:d ≠ ds.getD i 0:=fun e2 => by
     subst e2
     obtain ⟨hjl,hje⟩:=List.getElem?_eq_some_iff.1 hjd
     obtain ⟨hil',hie⟩:=List.getElem?_eq_some_iff.1 hdi
     rcases Nat.lt_or_gt_of_ne e with hlt' | hlt'
     ·exact (List.pairwise_iff_getElem.1 h3 j i hjl hil' hlt') (hje.trans hie.symm)
     exact (List.pairwise_iff_getElem.1 h3 i j hil' hjl hlt') (hie.trans hje.symm)
    have:(j == i) = false:=by simpa using e
    rw [this,Bool.or_false] at hup'
    rw [upd_ne _ _ hne,if_neg e,hsrc j (fun l hl => ?_)]
    ·exact htold j d hj hup' hjd
    obtain ⟨oj,hoj,_,hjn,_,hjs,_,_⟩:=h4 j hj
    obtain ⟨hl1,hl2⟩:=hjs l hl
    have hlu:Up listed l = true:=anc (Up listed) hclosed j hj oj hoj (hclosed j hup' oj hoj) l hl1
    exact ⟨Nat.lt_trans hl2 hj,fun e9 => by subst e9; rw [hu] at hlu; cases hlu⟩
   rw [hup]
   have hs2:=hsep.news hN
   refine hs2.perm ?_
   rw [← List.append_assoc]
   exact List.Perm.append_right R0 (pool_upd (Up listed) ρ i r hu m him).symm
  obtain ⟨i0,hi0⟩:=hex
  obtain ⟨i,⟨hi,hu⟩,hmin⟩:=least (p:=fun i => i < m ∧ Up listed i = false) i0 hi0
  have hfirst:∃ o,ops[i]? = some o ∧ i ∈ Region.ready .any ops listed:=by
   obtain ⟨o,ho,hdst,_,_,_,_,hlt⟩:=h4 i hi
   have hir:i ∈ Region.ready .any ops listed:=mem_ready.2 ⟨by unfold Up at hu; rw [← hu]; exact getD_same (by have:=(Array.getElem?_eq_some_iff.1 ho).1; omega),o,ho,fun e he hb => by
    have hjlt:=hlt e.on (mem_needs.2 ⟨e,he,hb,rfl⟩)
    cases hup:Up listed e.on with
    | true => exact hup
    | false => have:=hmin e.on ⟨by omega,hup⟩; omega⟩
   exact ⟨o,ho,hir⟩
  obtain ⟨o,ho,hir⟩:=hfirst
  rcases Classical.em (∃ i,i < m ∧ pu.contains i = false ∧ Up listed i = false) with hA | hA
  ·refine ⟨fun hnil => (by rw [hnil] at hir; cases hir),fun i hi => ?_⟩
   obtain ⟨hu,o,ho,hneed⟩:=hready i hi
   have him:i < m:=by
    rcases Nat.lt_or_ge i m with h | h
    ·exact h
    exfalso
    obtain ⟨i0,hi0,hp0,hu0⟩:=hA
    rcases h5 i h o ho with ⟨k,hk,hmk⟩ | h9
    ·have:=hneed k hk
     rw [hlate k hmk] at this; cases this
    rcases h9 i0 hi0 with h9 | h9 | ⟨k,hk,hik⟩
    ·rw [h9] at hp0; cases hp0
    ·rw [hneed i0 h9] at hu0; cases hu0
    have hkm:k < m:=by
     rcases Nat.lt_or_ge k m with h8 | h8
     ·exact h8
     have:=hneed k hk
     rw [hlate k h8] at this; cases this
    obtain ⟨ok,hok,_⟩:=h4 k hkm
    have:=anc (Up listed) hclosed k hkm ok hok (hclosed k (hneed k hk) ok hok) i0 hik
    rw [this] at hu0; cases hu0
   obtain ⟨hdst,hdi,⟨S,hsep'⟩,hanc,next⟩:=core i o ho him hu hneed
   unfold wpOpIn
   rw [ho]
   rcases hstep i o ((Nat.lt_or_ge i a9).elim (fun h => by rw [hlow i h] at hu; cases hu) id) him ho (fun e a w => Q e (marks Ds a) w) f' w' ρ S hother hanc hsep' hBl with ⟨hw,hwp⟩ | ⟨hw,hT⟩
   ·have hw2:Region.wanted o (yielded ops (marks Ds (act n f')).tmps) = true:=by rw [marks_yielded]; exact hw
    simp only [hw2,if_true]
    exact OW.inn (hd i o ho) (OW.marks (fun a'' w'' h => by
     obtain ⟨v,r,rfl,hT,hN⟩:=h
     exact ⟨_,rfl,(next v r w'' hT hN).2⟩) hwp)
   have hw2:Region.wanted o (yielded ops (marks Ds (act n f')).tmps) = false:=by rw [marks_yielded]; exact hw
   simp only [hw2,Bool.false_eq_true,if_false]
   rw [hdst,hdi,marks_put,act_put]
   exact ⟨fun _ _ => trivial,(next undef [] w' hT (New.same w')).2⟩
  exact absurd ⟨i,hi,by rw [hpu]; rfl,hu⟩ hA
theorem istage {id:Nat} {f:Nat → Value} {R0:List Res} {w:World} {l:List Oper} (m:Nat) (ds:List Nat) (nd sr:List (List Nat)) (pu:List Nat) (Bl:List (Nat × List Value × TypeId)) (T:Nat → List Value → Tell) (hBl:HeldS Bl w) (hpu:pu = []) (hd:(l.all fun o => noDefer o) = true) (hm:P.follows .mixedOrders = true) (hst:stageB l.toArray ds nd sr pu m = true) (hS:Sep w0 R0 w)
  (hstep:Steps P l.toArray n f ds nd sr pu Bl T w0 R0 m 0 l)
  (hend:∀ (vs:Nat → Value) (ρ : Nat → List Res) (w':World) (f':Nat → Value),f' = layf vs ds 0 f → (∀ i,i < m → T i ((sr.getD i []).map fun l => vs l) (vs i) (ρ i)) → Sep w0 (pool (fun _ => true) ρ m ++ R0) w' → LateI n Ds r9 mm P l.toArray Q Bl m (act n f') w') :
  CR r9 mm P (Code.region id l.toArray true) Q (marks Ds (act n f)) w:=by
 refine ⟨wpIn_region_any hm ?_⟩
 have hup:∀ i,Up (Array.replicate l.toArray.size false) i = false:=fun i => by
  unfold Up; simp [Array.getElem?_replicate]; split <;> rfl
 have hcount:((List.range m).countP fun i => !Up (Array.replicate l.toArray.size false) i) = m:=by
  have:((List.range m).countP fun i => !Up (Array.replicate l.toArray.size false) i) = (List.range m).length:=List.countP_eq_length.2 fun i _ => by rw [hup]; rfl
  rw [this,List.length_range]
 have hat:∀ i o,i < m → l.toArray[i]? = some o → StepOk P l.toArray n f ds nd sr Bl T w0 R0 i o ∧ (pu.contains i = true → PureOk P l.toArray n f ds nd sr Bl T i o):=fun i o hi ho => by have:=stepsAt hstep.out i o hi (by simpa using ho); rwa [Nat.zero_add] at this
 refine istage_go (a9:=0) hpu (fun i o ho => by have h1:=List.all_eq_true.1 hd o (List.mem_of_getElem? (by simpa using ho)); exact h1) hst (fun i o _ hi ho => (hat i o hi ho).1) hend m _ _ f w.drew (fun _ => []) (by simp) (fun i h => by omega) hcount (Nat.le_refl _) (fun i _ => hup i) (fun i hi => by rw [hup i] at hi; cases hi) (fun _ _ => rfl) (fun i d _ hi => by rw [hup i] at hi; cases hi) ?_ ?_
 have e:∀ k,pool (Up (Array.replicate l.toArray.size false)) (fun _ => []) k = []:=fun k => by
  induction k with
  | zero => rfl
  | succ k ih => simp only [pool,ih]; split <;> rfl
 ·rw [e,List.nil_append]
  exact hS.drew
 exact hBl.grow (Below.refl _ _).drew
theorem bltI {a b:Nat}:Nat.blt a b = true ↔ a < b:=by rw [Nat.blt_eq]
def closedB (ops:Array Oper) (a:Nat):Bool:=(List.range a).all fun i => match ops[i]? with | some o => (needs o).all fun j => Nat.blt j i | none => true
theorem count_blt:∀ (k a:Nat),((List.range (a + k)).countP fun i => !Nat.blt i a) = k
 | 0,a => List.countP_eq_zero.2 fun i hi => by
  have h:Nat.blt i a = true:=bltI.2 (List.mem_range.1 hi)
  simp [h]
 | k + 1,a => by
  have h:Nat.blt (a + k) a = false:=by
   cases e:Nat.blt (a + k) a with
   | false => rfl
   | true => rw [Nat.blt_eq] at e; omega
  rw [show a + (k + 1) = (a + k) + 1 by omega,List.range_succ,List.countP_append,count_blt k a]
  simp [h]
theorem istageL {f:Nat → Value} {R0:List Res} {w:World} {l:List Oper} (a k m:Nat) (hm9:a + k = m) (ds:List Nat) (nd sr:List (List Nat)) (pu:List Nat) (Bl:List (Nat × List Value × TypeId)) (T:Nat → List Value → Tell) (hBl:HeldS Bl w) (hpu:pu = []) (hd:(l.all fun o => noDefer o) = true) (hst:stageB l.toArray ds nd sr pu m = true) (hcl:closedB l.toArray a = true) (hT0:∀ i,i < a → T i ((sr.getD i []).map fun l => f (ds.getD l 0)) (f (ds.getD i 0)) []) (hS:Sep w0 R0 w)
  (hstep:Steps P l.toArray n f ds nd sr pu Bl T w0 R0 k a (l.drop a))
  (hend:∀ (vs:Nat → Value) (ρ : Nat → List Res) (w':World) (f':Nat → Value),f' = layf vs ds 0 f → (∀ i,i < m → T i ((sr.getD i []).map fun l => vs l) (vs i) (ρ i)) → Sep w0 (pool (fun _ => true) ρ m ++ R0) w' → LateI n Ds r9 mm P l.toArray Q Bl m (act n f') w') :
  LateI n Ds r9 mm P l.toArray Q Bl a (act n f) w:=by
 subst hm9
 refine ⟨f,rfl,fun fuel listed hfuel hsz hup => ?_⟩
 have hm:a + k ≤ l.toArray.size:=by
  unfold stageB at hst
  simp only [Bool.and_eq_true] at hst
  exact Nat.le_of_ble_eq_true hst.1.1.1.1.2
 have hup2:∀ i,Up listed i = Nat.blt i a:=fun i => by
  rcases Nat.lt_or_ge i l.toArray.size with h | h
  ·exact hup i h
  have h2:Up listed i = false:=by unfold Up; simp [Array.getD,Nat.not_lt.2 (hsz ▸ h:listed.size ≤ i)]
  have h3:Nat.blt i a = false:=by
   cases e:Nat.blt i a with
   | false => rfl
   | true => rw [Nat.blt_eq] at e; omega
  rw [h2,h3]
 have e:∀ m,pool (Up listed) (fun _ => []) m = []:=fun m => by
  induction m with
  | zero => rfl
  | succ k ih => simp only [pool,ih]; split <;> rfl
 refine istage_go (a9:=a) hpu (fun i o ho => by have h1:=List.all_eq_true.1 hd o (List.mem_of_getElem? (by simpa using ho)); exact h1) hst (fun i o hi hi2 ho => ?_) hend k fuel listed f w (fun _ => []) hsz (fun i hi => by rw [hup2]; exact bltI.2 hi) ?_ (by omega) (fun i hi => ?_) (fun i hi o ho j hj => ?_) (fun _ _ => rfl) (fun i d _ hi hid => ?_) (by rw [e]; exact hS) hBl
 ·obtain ⟨j,rfl⟩:∃ j,i = a + j:=⟨i - a,by omega⟩
  exact (stepsAt hstep.out j o (by omega) (by rw [List.getElem?_drop]; simpa using ho)).1
 ·rw [show (fun i => !Up listed i) = fun i => !Nat.blt i a from funext fun i => by rw [hup2]]
  exact count_blt k a
 ·rw [hup2]
  cases e:Nat.blt i a with
  | false => rfl
  | true => rw [Nat.blt_eq] at e; omega
 ·rw [hup2] at hi ⊢
  have h1:=bltI.1 hi
  have h2:=List.all_eq_true.1 hcl i (List.mem_range.2 h1)
  rw [ho] at h2
  have h3:=bltI.1 (List.all_eq_true.1 h2 j hj)
  exact bltI.2 (by omega)
 rw [hup2] at hi
 have h1:=hT0 i (bltI.1 hi)
 have h2:ds.getD i 0 = d:=by simp [List.getD,hid]
 rwa [h2] at h1
theorem marks0 {c:Code} {f:Nat → Value} {w:World} (h:CW P c Q (marks [] (act n f)) w):CW P c Q (act n f) w:=h
theorem Sep.dpk0 {w0 w:World} {R:List Res} (h:Sep w0 R w):Sep w0 (Dpk [] :: R) w:=Sep.pack [] rfl h
theorem Sep.dpkC {w0 w:World} {R:List Res} {D:Nat} {Ds:List Nat} (h:Sep w0 (.obj D (.deferred (some [])) :: Dpk Ds :: R) w):Sep w0 (Dpk (D :: Ds) :: R) w:=Sep.pack [_,Dpk Ds] (by cases Ds <;> rfl) h
theorem wrangeJ {α : Type} {id:Nat} {f:Nat → Value} {w:World} {g:Operand} {p q:Nat} {assign body:Code} {R Rc:List Res} {gf:FuncId} {lb:Array Value} {T : α → Value → Value → List Res → Prop} {xs:List α}
  (hg:(act n f).eval g = .func (.func gf) #[] lb) (eg:∀ args w,(callFunc gf args).run P w = .ok (.enter gf args) w) (hIt:Iter2 P gf lb T xs w0 R) (hS:Sep w0 (R ++ Rc) w)
  (I:List α → List Res → Prop) (Ix:Code → List α → List Res → Prop) (J:List Res → Prop) (h0:I [] Rc) (A:List α → α → (Nat → Value) → List Res → Prop)
  (hassign:∀ (l m:Nat) (pre:List α) (x : α) (u v:Value) (r Rf Rc:List Res) (W:World),pre ++ [x] <+: xs → I pre Rc → T x u v r → Sep w0 (r ++ (Rf ++ Rc)) W →
   CR (some l) m P assign (Exit.then (fun a W' => ∃ f' Rc',a = act n f' ∧ A pre x f' Rc' ∧ Sep w0 (Rf ++ Rc') W') (fun _ _ _ => False)) (act n (upd (upd f p u) q v)) W)
  (hbody:∀ (l m:Nat) (pre:List α) (x : α) (f':Nat → Value) (Rf Rc:List Res) (W:World),pre ++ [x] <+: xs → A pre x f' Rc → Sep w0 (Rf ++ Rc) W → CR (some l) m P body (roundEnd w0 I Ix Rf (pre ++ [x])) (act n f') W)
  (hJ:∀ Rc,I xs Rc → J Rc) (hX:∀ c pre Rc,pre <+: xs → Ix c pre Rc → c = .exit id ∧ J Rc)
  (hfin:∀ (D:Nat) (Rc:List Res) (W:World),J Rc → Sep w0 (.obj D (.deferred (some [])) :: (R ++ Rc)) W → Q .normal (marks (D :: Ds) (act n f)) W) :
  CW P (Code.rangeFunc g #[p,q] assign body) (Exit.inBlock id Q) (marks Ds (act n f)) w :=
 wrange2 (marks_tmps _ _) (by rw [marks_eval]; exact hg) eg hIt hS I Ix h0 A hassign hbody (fun D Rc W h1 h2 => blkN (hfin D Rc W (hJ Rc h1) h2)) (fun D c pre Rc W hp h1 h2 => by
  obtain ⟨rfl,h3⟩:=hX c pre Rc hp h1
  exact (wEx (blkE (hfin D Rc W h3 h2))).out)
end
end Go.Proofs.YtjnpdpcldmjdjaaGreatDoor
