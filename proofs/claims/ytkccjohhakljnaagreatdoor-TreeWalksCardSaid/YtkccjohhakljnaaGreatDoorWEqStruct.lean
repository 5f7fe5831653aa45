/- Words of a claim's machine side, laid by the kit's print and taken here as far as this claim names them; or this session's own. -/
import Derived.Test.YtkccjohhakljnaaGreatDoorWWords
import Derived.Laws.StructEq
/-! ### 53. '==' of structs as_ one Bool -/
namespace Go.Proofs.YtkccjohhakljnaaGreatDoorW.PrintWords
open Go.RowKit
section
variable {P : Program} {d : Nat} {xs ys : Array Value} {f : Field} {fs : List Field} {a b : Value} {r s : Bool} {w : World}
end
end Go.Proofs.YtkccjohhakljnaaGreatDoorW.PrintWords
