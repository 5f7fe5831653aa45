/- Words of a claim's machine side, laid by the kit's print and taken here as far as this claim names them; or this session's own. -/
import Derived.Test.YtodifojhegbjaaaDoorWInv
import Derived.Test.YtodifojhegbjaaaDoorWFootNe
namespace Go.Proofs.YtodifojhegbjaaaDoorW.PrintWords
open Go.RowKit
end Go.Proofs.YtodifojhegbjaaaDoorW.PrintWords
namespace Go.Proofs.YtodifojhegbjaaaDoorW.PrintLast
section
variable {ops : Array Oper} {a : Act} {o og : Oper} {g : Nat} {t : Tmp} {u : Bool}
end
end Go.Proofs.YtodifojhegbjaaaDoorW.PrintLast
