
/-
  From a law's walk to its row: what is read before the call, what is left behind it.
-/
import Derived.Test.YtnlnibngpeempaaGreatDoorBA
import Derived.ProofKit
import Derived.OpenShut
import Derived.JoinedCond
import Derived.Carry
set_option linter.unusedVariables false
set_option linter.unusedSimpArgs false
namespace Go.Proofs.YtnlnibngpeempaaGreatDoor
open Go.ChangeShapes Go.WideShapes Go.ChangeAt Go.RowKit
theorem own:ownKnob Tryz.prog.godebug = none:=by kernel_rfl
theorem laidOut:laidOutB Tryz.prog = true:=by kernel_rfl
theorem bulk_one {H:Type} (d:DataW H):1 ≤ Rows.uptoBulk d:=by
  cases d with
  | lit l => cases l <;> simp [Rows.uptoBulk]
  | nil => simp [Rows.uptoBulk]
  | ptr d => simp [Rows.uptoBulk]
  | slice elems spare => simp [Rows.uptoBulk]
  | agg parts => simp [Rows.uptoBulk]
  | iface t d => simp [Rows.uptoBulk]
  | map entries => simp [Rows.uptoBulk]
  | held h => simp [Rows.uptoBulk]
theorem bulk_length {H:Type} (l:List (DataW H)):l.length ≤ Rows.uptoBulkAll l:=by
  induction l with
  | nil => simp [Rows.uptoBulkAll]
  | cons x r ih => have:=bulk_one x; simp only [Rows.uptoBulkAll,List.length_cons]; omega
theorem bulk_bound {H:Type} {l:List (DataW H)} (hk:Rows.uptoSmall H l = true):Rows.uptoBulkAll l ≤ 1048576:=of_decide_eq_true hk
theorem trodAll_stays {H:Type} {enc:TypeId × Value → H} {W W':World} {sp':Nat → Bool}:∀ {ts:List TypeId} {vs:List Value} {ds:List (DataW H)} {ps:List MemPlace},
  (∀ t ∈ ts,Tryz.prog.readableRec t = true ∧ t < Tryz.prog.types.size) → DataW.TrodAll enc Tryz.prog W 0 (fun _ => true) true ts vs ds ps → (∀ p ∈ ps,W.sameAt W' p) → (∀ p ∈ ps,sp' p.block = true) →
  DataW.TrodAll enc Tryz.prog W' 0 sp' true ts vs ds ps:=by
 intro ts
 induction ts with
 | nil =>
  intro vs ds ps _ h _ _
  obtain ⟨rfl,rfl,rfl⟩:=trodAll_nil h
  exact trodAll_mk0
 | cons t ts ih =>
  intro vs ds ps hr h hs hp
  obtain ⟨v,vs',d,ds',p,q,rfl,rfl,rfl,h0,h1⟩:=trodAll_cons h
  have hr0:=hr t (by simp)
  refine trodAll_cons_mk (WideElems.Trod_stays laidOut hr0.1 hr0.2 h0 (fun x hx => hs x (List.mem_append_left _ hx)) (fun x hx => hp x (List.mem_append_left _ hx))) ?_
  exact ih (fun t ht => hr t (by simp [ht])) h1 (fun x hx => hs x (List.mem_append_right _ hx)) (fun x hx => hp x (List.mem_append_right _ hx))
theorem law_post {H:Type} {enc:TypeId × Value → H} {f:Func} {s:ChangeSpec} {W W':World} {args:Array Value} {ds gs:List (DataW H)} {before:List MemPlace} {bt:TypeId}
  (hv:s.vars = []) (hbt:Tryz.prog.underlying bt = some .bool) (hrt:f.resultTypes = #[bt]) (hread:∀ t ∈ f.params.toList,Tryz.prog.readableRec t = true ∧ t < Tryz.prog.types.size)
  (hfn:(s.fn H ds).results = [.lit (.bool true)] ∧ (s.fn H ds).args = ds ∧ (s.fn H ds).vars = [])
  (hW:DataW.Whole enc Tryz.prog f.params.toList s.vars false W args.toList ds gs before) (hb:Below W.heap.size W W'):s.post enc Tryz.prog f false true false false W args (.bool true) W':=by
 have hlt:=hW.lt
 have hW0:=hW
 obtain ⟨p,q,hA,hV,hpq,hfz,hnd⟩:=hW
 have hV0:=hV
 rw [hv] at hV
 obtain ⟨rfl,rfl⟩:=trodVars_none hV
 rw [List.append_nil] at hpq
 subst hpq
 refine ⟨ds,[],before,[],before,[],hW0,?_,?_,?_,hb.frame _,fun h => by cases h⟩
 ·rw [List.append_nil,hfn.1,hrt]
  exact trodAll_cons_mk (shut_bool hbt true) trodAll_mk0
 ·rw [List.append_nil,hfn.2.1]
  exact trodAll_stays hread hA (fun x hx => hb.same (hlt x hx)) (fun x hx => by simpa using hlt x hx)
 rw [hv,List.append_nil,hfn.2.2]
 simp [DataW.TrodVars]
end Go.Proofs.YtnlnibngpeempaaGreatDoor
