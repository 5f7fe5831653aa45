/- Words of a claim's machine side, laid by the kit's print and taken here as far as this claim names them; or this session's own. -/
import Derived.Test.YtkccjohhakljnaaGreatDoorWTab
/-! ### 56. Four, five, six operations that may come up next, in any order -/
namespace Go.Proofs.YtkccjohhakljnaaGreatDoorW.PrintLast
section
variable {P : Program} {ops : Array Oper} {Q : Exit → Act → World → Prop} {md : Region.Mode} {S : World → Prop} {ds : List Nat} {T : Bool × List (List Nat × List Nat)}
end
end Go.Proofs.YtkccjohhakljnaaGreatDoorW.PrintLast
