-- Cut for this claim by a program (wip/prune.py) out of the texts that its bench laid or wrote
import Derived.Test.YtjphoempoinedaaWInv
import Derived.Test.YtjphoempoinedaaWFootNe
namespace Go.Proofs.YtjphoempoinedaaW.PrintWords
open Go.RowKit
end Go.Proofs.YtjphoempoinedaaW.PrintWords
namespace Go.Proofs.YtjphoempoinedaaW.PrintLast
section
variable {ops : Array Oper} {a : Act} {o og : Oper} {g : Nat} {t : Tmp} {u : Bool}
end
end Go.Proofs.YtjphoempoinedaaW.PrintLast
