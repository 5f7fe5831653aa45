/- Words of a claim's machine side, laid by the kit's print and taken here as far as this claim names them; or this session's own. -/
import Derived.Test.YtcfcbkcaondfcaaDoorWInv
import Derived.Test.YtcfcbkcaondfcaaDoorWFootNe
namespace Go.Proofs.YtcfcbkcaondfcaaDoorW.PrintWords
open Go.RowKit
end Go.Proofs.YtcfcbkcaondfcaaDoorW.PrintWords
namespace Go.Proofs.YtcfcbkcaondfcaaDoorW.PrintLast
section
variable {ops : Array Oper} {a : Act} {o og : Oper} {g : Nat} {t : Tmp} {u : Bool}
end
end Go.Proofs.YtcfcbkcaondfcaaDoorW.PrintLast
