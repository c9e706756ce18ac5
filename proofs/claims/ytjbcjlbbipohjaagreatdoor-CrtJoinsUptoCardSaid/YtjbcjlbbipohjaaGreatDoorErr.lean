
/-
  errors.Is of two of the program's own numbered errors (after the kit's worked proof of errors.Is over sentinels).
-/
import Derived.Test.YtjbcjlbbipohjaaGreatDoorCA
import Derived.WalkKit
import Derived.LaidEql
import Derived.Stop.Asserts
import Derived.RowKitTokens
set_option linter.unusedVariables false
set_option linter.unusedSimpArgs false
namespace Go.Proofs.YtjbcjlbbipohjaaGreatDoor
open Go.RowKit Go.Extern.Stop Go.Stop Go.Extern
def erFn:Array Value → Sem Value:=Extern.ReflectliteType.method fun t => do Go.Extern.Rtype.noPackHeld "Comparable" t; pure (.bool (← typeInfo t).comparable)
end Go.Proofs.YtjbcjlbbipohjaaGreatDoor
