/- Words of a claim's machine side, laid by the kit's print and taken here as far as this claim names them; or this session's own. -/
import Derived.Test.YtkccjohhakljnaaGreatDoorWWords
/-! ### 58. A guarded operation whose guard is known to want it: the same goal without the guard -/
namespace Go.Proofs.YtkccjohhakljnaaGreatDoorW.PrintWords
open Go.RowKit
section
variable {P : Program} {ops : Array Oper} {rest : List Oper} {o : Oper} {a : Act} {Q : Exit → Act → World → Prop} {W : World}
end
end Go.Proofs.YtkccjohhakljnaaGreatDoorW.PrintWords
