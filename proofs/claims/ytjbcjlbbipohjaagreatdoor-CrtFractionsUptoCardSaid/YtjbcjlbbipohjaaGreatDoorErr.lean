
/-
  errors.Is of two of the program's own numbered errors (after the kit's worked proof of errors.Is over sentinels).
-/
import Derived.Test.YtjbcjlbbipohjaaGreatDoorCA
import Derived.WalkKit
import Derived.LaidEql
import Derived.Stop.Asserts
import Derived.RowKitTokens
set_option linter.unusedVariables false
set_option linter.unusedSimpArgs false
namespace Go.Proofs.YtjbcjlbbipohjaaGreatDoor
open Go.RowKit Go.Extern.Stop Go.Stop Go.Extern
theorem erTypeOf (v:Value) (w:World):(Extern.ReflectliteType.typeOf #[.iface 23 v]).run Tryz.prog w = .ok (.iface 159 (.agg #[.pointer (some ⟨2,23,none⟩)])) w:=by kernel_rfl
def erFn:Array Value → Sem Value:=Extern.ReflectliteType.method fun t => do Go.Extern.Rtype.noPackHeld "Comparable" t; pure (.bool (← typeInfo t).comparable)
theorem erComparable (w:World):(erFn #[.agg #[.pointer (some ⟨2,23,none⟩)]]).run Tryz.prog w = .ok (.bool true) w:=by kernel_rfl
theorem erMethod (v:Value) (w:World):(Go.method 303 159 v "Comparable").run Tryz.prog w = .ok (166,v) w:=by kernel_rfl
theorem erComp:(Tryz.prog.info? 23).map (·.comparable) = some true:=by kernel_rfl
theorem erNoIs (v:Value) (xT:TypeId) (w:World):(Instr.typeAssert (.iface 23 v) xT 161 true).run Tryz.prog w = .ok (.tuple #[.nilIface,.bool false]) w:=run_typeAssert_lacksB Tryz.underlying161 (by kernel_rfl) (by kernel_rfl) v xT w
theorem erNoUnwrap (v:Value) (xT:TypeId) (w:World):(Instr.typeAssert (.iface 23 v) xT 164 true).run Tryz.prog w = .ok (.tuple #[.nilIface,.bool false]) w:=run_typeAssert_lacksB Tryz.underlying164 (by kernel_rfl) (by kernel_rfl) v xT w
theorem erNoUnwraps (v:Value) (xT:TypeId) (w:World):(Instr.typeAssert (.iface 23 v) xT 166 true).run Tryz.prog w = .ok (.tuple #[.nilIface,.bool false]) w:=run_typeAssert_lacksB Tryz.underlying166 (by kernel_rfl) (by kernel_rfl) v xT w
theorem erEql {a b:Int} (w:World):(binOp .eql 103 (.iface 23 (.int .i64 a)) (.iface 23 (.int .i64 b))).run Tryz.prog w = .ok (.bool (a == b)) w:=by
 obtain ⟨i,hi,hcmp⟩:=Option.map_eq_some_iff.1 erComp
 have h:∀ d:Nat,(Op.equalIn (d + 2) 103 (.iface 23 (.int .i64 a)) (.iface 23 (.int .i64 b))).run Tryz.prog w = .ok (a == b) w:=fun d => by
  simp [Op.equalIn,run_underlying Tryz.underlying103,run_underlying Tryz.underlying23,typeInfo,hi,hcmp]
 simp only [binOp]
 simp [Op.equal,Op.maxDepth,h 9998]
set_option maxRecDepth 100000 in
set_option maxHeartbeats 4000000 in
theorem er_same (a:Int) (w:World) :
  Calls Tryz.prog 119 #[.iface 23 (.int .i64 a),.iface 23 (.int .i64 a)] w fun e w' => e = .returned (.bool true) ∧ w = w':=by
 have h8:=@run_callFunc_extern Tryz.prog 136 _ Extern.ReflectliteType.typeOf Tryz.func136 (by kernel_rfl) (by kernel_rfl) (by kernel_rfl) (by kernel_rfl)
 have h32:=@run_callFunc_extern Tryz.prog 166 _ erFn Tryz.func166 (by kernel_rfl) (by kernel_rfl) (by kernel_rfl) (by kernel_rfl)
 have tT:=erTypeOf
 have cT:=erComparable
 have mR:=erMethod
 have heq:(binOp .eql 103 (.iface 23 (.int .i64 a)) (.iface 23 (.int .i64 a))).run Tryz.prog w = .ok (.bool true) w:=(erEql w).trans (by simp)
 go_enter Tryz.func119,Tryz.ntmps119
 go_wp2
 refine wp_loop_rounds 1 ?_
 rw [rounds_succ]
 go_wp2
 go_ret
 exact ⟨rfl,rfl⟩
set_option maxRecDepth 100000 in
set_option maxHeartbeats 4000000 in
theorem er_other {a b:Int} (hne:a ≠ b) (w:World) :
  Calls Tryz.prog 119 #[.iface 23 (.int .i64 a),.iface 23 (.int .i64 b)] w fun e w' => e = .returned (.bool false) ∧ w = w':=by
 have h8:=@run_callFunc_extern Tryz.prog 136 _ Extern.ReflectliteType.typeOf Tryz.func136 (by kernel_rfl) (by kernel_rfl) (by kernel_rfl) (by kernel_rfl)
 have h32:=@run_callFunc_extern Tryz.prog 166 _ erFn Tryz.func166 (by kernel_rfl) (by kernel_rfl) (by kernel_rfl) (by kernel_rfl)
 have tT:=erTypeOf
 have cT:=erComparable
 have mR:=erMethod
 have nE:=erNoIs
 have uE:=erNoUnwrap
 have vE:=erNoUnwraps
 have heq:(binOp .eql 103 (.iface 23 (.int .i64 a)) (.iface 23 (.int .i64 b))).run Tryz.prog w = .ok (.bool false) w:=(erEql w).trans (by simp [hne])
 go_enter Tryz.func119,Tryz.ntmps119
 go_wp2
 refine wp_loop_rounds 1 ?_
 rw [rounds_succ]
 go_wp2
 go_ret
 exact ⟨rfl,rfl⟩
end Go.Proofs.YtjbcjlbbipohjaaGreatDoor
