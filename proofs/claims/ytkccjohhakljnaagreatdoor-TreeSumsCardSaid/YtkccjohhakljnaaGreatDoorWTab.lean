/- Words of a claim's machine side, laid by the kit's print and taken here as far as this claim names them; or this session's own. -/
import Derived.Test.YtkccjohhakljnaaGreatDoorWLast
import Derived.Test.YtkccjohhakljnaaGreatDoorWWords
/-! ### 50. A region's order in a table, made once a region: each step asks the table (numbers alone), not the operations -/
namespace Go.Proofs.YtkccjohhakljnaaGreatDoorW.PrintLast
open Go.Proofs.YtkccjohhakljnaaGreatDoorW.PrintWords (Aside0)
section
variable {md : Region.Mode} {ops : Array Oper} {T : Bool × List (List Nat × List Nat)} {l l' li lj lk : Array Bool} {ds : List Nat} {i j k : Nat}
end
end Go.Proofs.YtkccjohhakljnaaGreatDoorW.PrintLast
