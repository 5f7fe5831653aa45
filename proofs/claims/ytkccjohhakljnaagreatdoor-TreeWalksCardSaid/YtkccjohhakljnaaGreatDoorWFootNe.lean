/- Words of a claim's machine side, laid by the kit's print and taken here as far as this claim names them; or this session's own. -/
import Derived.Test.YtkccjohhakljnaaGreatDoorWN
/-! ### 52. A row that stays read whatever happens to a block (a set of blocks) doesn't lie there -/
namespace Go.Proofs.YtkccjohhakljnaaGreatDoorW.PrintWords
open Go.RowKit
namespace Kd
section
variable {α : Type} {d : Kd α} {W : World} {g n : Nat} {S ok : Nat → Prop} {A : Option Addr} {ad : Addr} {xs : List α}
end
end Kd
end Go.Proofs.YtkccjohhakljnaaGreatDoorW.PrintWords
