/- Statement 26.2: a ledger that isn't there takes nothing, and has nothing, whatever is done. -/
import Derived.Test.YthkdabpbohiadaaPSpaceNonex1
namespace Go.Proofs.Ythkdabpbohiadaa.Pure
open Go.RowKit Go.Proofs.Ythkdabpbohiadaa.PSpaceNone Go.Proofs.YthkdabpbohiadaaW.PrintWords Go.Proofs.YthkdabpbohiadaaW.PrintLast
theorem SpaceNone : bindlelaw26_SpaceNone.Pure := fun _ _ => rfl
end Go.Proofs.Ythkdabpbohiadaa.Pure
