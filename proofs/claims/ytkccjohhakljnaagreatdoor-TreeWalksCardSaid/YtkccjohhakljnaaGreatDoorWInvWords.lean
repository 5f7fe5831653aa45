/- Words of a claim's machine side, laid by the kit's print and taken here as far as this claim names them; or this session's own. -/
import Derived.Test.YtkccjohhakljnaaGreatDoorWInv
import Derived.Test.YtkccjohhakljnaaGreatDoorWFootNe
namespace Go.Proofs.YtkccjohhakljnaaGreatDoorW.PrintWords
open Go.RowKit
end Go.Proofs.YtkccjohhakljnaaGreatDoorW.PrintWords
namespace Go.Proofs.YtkccjohhakljnaaGreatDoorW.PrintLast
section
variable {ops : Array Oper} {a : Act} {o og : Oper} {g : Nat} {t : Tmp} {u : Bool}
end
end Go.Proofs.YtkccjohhakljnaaGreatDoorW.PrintLast
