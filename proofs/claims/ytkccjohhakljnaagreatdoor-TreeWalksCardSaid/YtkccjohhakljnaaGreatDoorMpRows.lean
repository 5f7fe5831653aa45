/- Words of a claim's machine side, laid by the kit's print and taken here as far as this claim names them; or this session's own. -/
/- Rows of structs that are put together in place: small lemmas for functions that are told by hand. -/
import Derived.Test.YtkccjohhakljnaaGreatDoorMpHelp
import Derived.Test.YtkccjohhakljnaaGreatDoorWNEv
import Derived.Test.YtkccjohhakljnaaGreatDoorWZeros
import Derived.Deep.DeepAppendRoom
import Derived.Laws.CopyRow
import Derived.Laws.CopyOwn
namespace Go.Proofs.YtkccjohhakljnaaGreatDoorMpRows
open Go.RowKit Go.Proofs.YtkccjohhakljnaaGreatDoorW.PrintWords
set_option linter.unusedVariables false
section
variable {P : Program}
end
section
variable {P : Program} {ops : Array Oper} {rest : List Oper} {o : Oper} {a : Act} {Q : Exit → Act → World → Prop} {α : Type}
end
section
variable {α : Type}
end
section
variable {P : Program}
end
section
variable {P : Program} {ops : Array Oper} {rest : List Oper} {o : Oper} {a : Act} {Q : Exit → Act → World → Prop}
end
section
variable {α : Type}
end
section
variable {P : Program} {ops : Array Oper} {rest : List Oper} {o : Oper} {a : Act} {Q : Exit → Act → World → Prop} {α : Type}
end
end Go.Proofs.YtkccjohhakljnaaGreatDoorMpRows
