/-
  DERIVED. GIVEN WITH THE SEED: THE CARDS: each row of YtcfcbkcaondfcaaDoorRows.lean that lists a variable, with what it lists TIED to the program's text (the seventh form; the later family's looks); each row that meets fmt, with fmt's text TOLD by the authors' own Lean function (tested against real Go, not proved from fmt's source: count such statements apart). THE CARD IS WHAT COUNTS. Prove the row's statement (the work); the ties are given (YtcfcbkcaondfcaaDoorTie.lean); close each card by the builder's one call (the guide's Derived/Test/ToyasCard.lean, 'card_holds'). Laid BY PROGRAM, IN A SANDBOX (cutbox-door.mjs). By AI agents, Wed Nov 11 2026. No macro, syntax, notation, axiom, sorry.
-/
import Derived.Test.YtcfcbkcaondfcaaDoorRows
import GoSem.ClaimSeven
namespace Go.Proofs.YtcfcbkcaondfcaaDoor
namespace Rows

/-- THE TIED CARD OF 'bindlelaw15.MemberFolders'. -/
def memberFoldersCard : Claim7 := { stood := { row := memberFoldersRow, standIns := [], harness := (true, "63feb3fad628602b7224f75521d08251b86668aa23ea3959bdb07ebe87cbe8b5"), looks := false }, kinds := [], alts := [], laidByText := true, laidKinds := [.data, .pinned], laidTests := true, laidLooks := .later }
def MemberFoldersCardSaid : Prop := Claim7.holds Tryd.pinned (.plain (OpenSpec.ofChange memberFoldersSpec)) memberFoldersCard

/-- THE TIED CARD OF 'bindlelaw15.MemberSorts'. -/
def memberSortsCard : Claim7 := { stood := { row := memberSortsRow, standIns := [], harness := (true, "63feb3fad628602b7224f75521d08251b86668aa23ea3959bdb07ebe87cbe8b5"), looks := false }, kinds := [], alts := [], laidByText := true, laidKinds := [.data, .pinned], laidTests := true, laidLooks := .later }
def MemberSortsCardSaid : Prop := Claim7.holds Tryd.pinned (.plain (OpenSpec.ofChange memberSortsSpec)) memberSortsCard

/-- THE TIED CARD OF 'bindlelaw15.MemberRights'. -/
def memberRightsCard : Claim7 := { stood := { row := memberRightsRow, standIns := [], harness := (true, "63feb3fad628602b7224f75521d08251b86668aa23ea3959bdb07ebe87cbe8b5"), looks := false }, kinds := [], alts := [], laidByText := true, laidKinds := [.data, .pinned], laidTests := true, laidLooks := .later }
def MemberRightsCardSaid : Prop := Claim7.holds Tryd.pinned (.plain (OpenSpec.ofChange memberRightsSpec)) memberRightsCard

/-- THE TIED CARD OF 'bindlelaw15.MemberJoins'. -/
def memberJoinsCard : Claim7 := { stood := { row := memberJoinsRow, standIns := [], harness := (true, "63feb3fad628602b7224f75521d08251b86668aa23ea3959bdb07ebe87cbe8b5"), looks := false }, kinds := [], alts := [], laidByText := true, laidKinds := [.data, .pinned], laidTests := true, laidLooks := .later }
def MemberJoinsCardSaid : Prop := Claim7.holds Tryd.pinned (.plain (OpenSpec.ofChange memberJoinsSpec)) memberJoinsCard

/-- THE TIED CARD OF 'bindlelaw38.PlanDiffs'. -/
def planDiffsCard : Claim7 := { stood := { row := planDiffsRow, standIns := [], harness := (true, "63feb3fad628602b7224f75521d08251b86668aa23ea3959bdb07ebe87cbe8b5"), looks := false }, kinds := [], alts := [], laidByText := true, laidKinds := [.data, .pinned], laidTests := true, laidLooks := .later }
def PlanDiffsCardSaid : Prop := Claim7.holds Tryd.pinned (.plain (OpenSpec.ofChange planDiffsSpec)) planDiffsCard

/-- THE TIED CARD OF 'bindlelaw38.PlanApplies'. -/
def planAppliesCard : Claim7 := { stood := { row := planAppliesRow, standIns := [], harness := (true, "63feb3fad628602b7224f75521d08251b86668aa23ea3959bdb07ebe87cbe8b5"), looks := false }, kinds := [], alts := [], laidByText := true, laidKinds := [.data, .pinned], laidTests := true, laidLooks := .later }
def PlanAppliesCardSaid : Prop := Claim7.holds Tryd.pinned (.plain (OpenSpec.ofChange planAppliesSpec)) planAppliesCard

/-- THE TIED CARD OF 'bindlelaw38.PlanLeads'. -/
def planLeadsCard : Claim7 := { stood := { row := planLeadsRow, standIns := [], harness := (true, "63feb3fad628602b7224f75521d08251b86668aa23ea3959bdb07ebe87cbe8b5"), looks := false }, kinds := [], alts := [], laidByText := true, laidKinds := [.data, .pinned], laidTests := true, laidLooks := .later }
def PlanLeadsCardSaid : Prop := Claim7.holds Tryd.pinned (.plain (OpenSpec.ofChange planLeadsSpec)) planLeadsCard

/-- THE TIED CARD OF 'bindlelaw38.PlanJoins'. -/
def planJoinsCard : Claim7 := { stood := { row := planJoinsRow, standIns := [], harness := (true, "63feb3fad628602b7224f75521d08251b86668aa23ea3959bdb07ebe87cbe8b5"), looks := false }, kinds := [], alts := [], laidByText := true, laidKinds := [.data, .pinned], laidTests := true, laidLooks := .later }
def PlanJoinsCardSaid : Prop := Claim7.holds Tryd.pinned (.plain (OpenSpec.ofChange planJoinsSpec)) planJoinsCard

/-- THE SECOND FORM's CARD OF 'bindlelaw15.MemberFolders'. -/
def memberFoldersUptoCard : Claim7 := { stood := { row := memberFoldersUptoRow, standIns := [], harness := (true, "63feb3fad628602b7224f75521d08251b86668aa23ea3959bdb07ebe87cbe8b5"), looks := false }, kinds := [], alts := [], laidByText := true, laidKinds := [.data, .pinned], laidTests := true, laidLooks := .later }
def MemberFoldersUptoCardSaid : Prop := Claim7.holds Tryd.pinned (.plain (OpenSpec.upto memberFoldersSpec)) memberFoldersUptoCard

/-- THE SECOND FORM's CARD OF 'bindlelaw15.MemberSorts'. -/
def memberSortsUptoCard : Claim7 := { stood := { row := memberSortsUptoRow, standIns := [], harness := (true, "63feb3fad628602b7224f75521d08251b86668aa23ea3959bdb07ebe87cbe8b5"), looks := false }, kinds := [], alts := [], laidByText := true, laidKinds := [.data, .pinned], laidTests := true, laidLooks := .later }
def MemberSortsUptoCardSaid : Prop := Claim7.holds Tryd.pinned (.plain (OpenSpec.upto memberSortsSpec)) memberSortsUptoCard

/-- THE SECOND FORM's CARD OF 'bindlelaw15.MemberRights'. -/
def memberRightsUptoCard : Claim7 := { stood := { row := memberRightsUptoRow, standIns := [], harness := (true, "63feb3fad628602b7224f75521d08251b86668aa23ea3959bdb07ebe87cbe8b5"), looks := false }, kinds := [], alts := [], laidByText := true, laidKinds := [.data, .pinned], laidTests := true, laidLooks := .later }
def MemberRightsUptoCardSaid : Prop := Claim7.holds Tryd.pinned (.plain (OpenSpec.upto memberRightsSpec)) memberRightsUptoCard

/-- THE SECOND FORM's CARD OF 'bindlelaw15.MemberJoins'. -/
def memberJoinsUptoCard : Claim7 := { stood := { row := memberJoinsUptoRow, standIns := [], harness := (true, "63feb3fad628602b7224f75521d08251b86668aa23ea3959bdb07ebe87cbe8b5"), looks := false }, kinds := [], alts := [], laidByText := true, laidKinds := [.data, .pinned], laidTests := true, laidLooks := .later }
def MemberJoinsUptoCardSaid : Prop := Claim7.holds Tryd.pinned (.plain (OpenSpec.upto memberJoinsSpec)) memberJoinsUptoCard

/-- THE SECOND FORM's CARD OF 'bindlelaw38.PlanDiffs'. -/
def planDiffsUptoCard : Claim7 := { stood := { row := planDiffsUptoRow, standIns := [], harness := (true, "63feb3fad628602b7224f75521d08251b86668aa23ea3959bdb07ebe87cbe8b5"), looks := false }, kinds := [], alts := [], laidByText := true, laidKinds := [.data, .pinned], laidTests := true, laidLooks := .later }
def PlanDiffsUptoCardSaid : Prop := Claim7.holds Tryd.pinned (.plain (OpenSpec.upto planDiffsSpec)) planDiffsUptoCard

/-- THE SECOND FORM's CARD OF 'bindlelaw38.PlanApplies'. -/
def planAppliesUptoCard : Claim7 := { stood := { row := planAppliesUptoRow, standIns := [], harness := (true, "63feb3fad628602b7224f75521d08251b86668aa23ea3959bdb07ebe87cbe8b5"), looks := false }, kinds := [], alts := [], laidByText := true, laidKinds := [.data, .pinned], laidTests := true, laidLooks := .later }
def PlanAppliesUptoCardSaid : Prop := Claim7.holds Tryd.pinned (.plain (OpenSpec.upto planAppliesSpec)) planAppliesUptoCard

/-- THE SECOND FORM's CARD OF 'bindlelaw38.PlanLeads'. -/
def planLeadsUptoCard : Claim7 := { stood := { row := planLeadsUptoRow, standIns := [], harness := (true, "63feb3fad628602b7224f75521d08251b86668aa23ea3959bdb07ebe87cbe8b5"), looks := false }, kinds := [], alts := [], laidByText := true, laidKinds := [.data, .pinned], laidTests := true, laidLooks := .later }
def PlanLeadsUptoCardSaid : Prop := Claim7.holds Tryd.pinned (.plain (OpenSpec.upto planLeadsSpec)) planLeadsUptoCard

/-- THE SECOND FORM's CARD OF 'bindlelaw38.PlanJoins'. -/
def planJoinsUptoCard : Claim7 := { stood := { row := planJoinsUptoRow, standIns := [], harness := (true, "63feb3fad628602b7224f75521d08251b86668aa23ea3959bdb07ebe87cbe8b5"), looks := false }, kinds := [], alts := [], laidByText := true, laidKinds := [.data, .pinned], laidTests := true, laidLooks := .later }
def PlanJoinsUptoCardSaid : Prop := Claim7.holds Tryd.pinned (.plain (OpenSpec.upto planJoinsSpec)) planJoinsUptoCard
end Rows
end Go.Proofs.YtcfcbkcaondfcaaDoor
