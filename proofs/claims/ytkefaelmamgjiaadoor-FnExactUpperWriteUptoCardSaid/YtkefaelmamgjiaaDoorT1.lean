/- spec.l1Find. -/
import Derived.Test.YtkefaelmamgjiaaDoorDat
import Derived.Test.YtkefaelmamgjiaaDoorTys
import Derived.Test.YtkefaelmamgjiaaDoorChecked
set_option linter.unusedVariables false
set_option linter.unusedSimpArgs false
namespace Go.Proofs.YtkefaelmamgjiaaDoor
open Go.RowKit

def findFrom (ns : List ByteArray) (n : ByteArray) (i : Nat) : Int :=
  if h : i < ns.length then (if ns[i] = n then i else findFrom ns n (i + 1)) else -1
termination_by ns.length - i

end Go.Proofs.YtkefaelmamgjiaaDoor
