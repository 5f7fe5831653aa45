/-
  NARROWER THAN 'FOR EVERY INPUT', by the rows' own cells (each row's printed sentence says how): MemberFolders: laid · MemberSorts: laid · MemberRights: laid · MemberJoins: laid · PlanDiffs: laid · PlanApplies: laid · PlanLeads: laid · PlanJoins: laid.
  DERIVED. THE GIVEN ROWS OF THIS SEAT. 8 by the template 'for every input the law returns true; each argument reads behind the call as it read before'; 0 by the template 'total and deterministic' (their statements: YtcfcbkcaondfcaaDoorTotals.lean).
  GIVEN WITH THE SEED: the statements are not yours to turn. If you find one false, say at which input.
  Laid BY PROGRAM, IN A SANDBOX (cutbox-rows.mjs): the forced cells as the released guide's own fill.sh prints them over the translation 358790b66362ec86… (all of the seat's roots in one cut). By AI agents, Wed Nov 11 2026. No macro, syntax, notation, axiom, sorry.
-/
import Derived.Test.YtcfcbkcaondfcaaDoorChecked
import GoSem.PinnedTables
import GoSem.Claim
import GoSem.ClaimJoined
import GoSem.ClaimMapViews
import Derived.JoinedTies
import Derived.KernelRfl
namespace Go.Proofs.YtcfcbkcaondfcaaDoor
/- THE CELL 'sum', in the pinned program and in every row, IS THE sha256 OF THE DUMP (.gsa) THAT YtcfcbkcaondfcaaDoorProg.lean LOADS. Nothing in Lean hashes anything: it is a label: what it is worth is what the hold of that sum in a sandbox is worth. -/
noncomputable def Tryd.pinned : Pinned := { name := "ytcfcbkcaondfcaadoor", sum := "358790b66362ec8638f93dd1b5bdbd258bb058433372d8c6f15d1f38f012956e", checked := Tryd.checked }
namespace Rows
def none {H : Type} : Left H := { results := [], args := [] }

/- WHAT THE LISTED PACKAGE-LEVEL VARIABLES READ AS WHEN THE CALL BEGINS. Each datum BY PROGRAM (the guide's laid-datum.mjs) off the statement by which the dump's own 'gosem.cut.vars' lays the variable. In a bare row this is a premise. The card (YtcfcbkcaondfcaaDoorCards.lean) ties it to the program's text. -/
def laid_unicode_utf8_acceptRanges {H : Type} : DataW H := .agg [.agg [.lit (.int .u8 128), .lit (.int .u8 191)], .agg [.lit (.int .u8 160), .lit (.int .u8 191)], .agg [.lit (.int .u8 128), .lit (.int .u8 159)], .agg [.lit (.int .u8 144), .lit (.int .u8 191)], .agg [.lit (.int .u8 128), .lit (.int .u8 143)], .agg [.lit (.int .u8 0), .lit (.int .u8 0)], .agg [.lit (.int .u8 0), .lit (.int .u8 0)], .agg [.lit (.int .u8 0), .lit (.int .u8 0)], .agg [.lit (.int .u8 0), .lit (.int .u8 0)], .agg [.lit (.int .u8 0), .lit (.int .u8 0)], .agg [.lit (.int .u8 0), .lit (.int .u8 0)], .agg [.lit (.int .u8 0), .lit (.int .u8 0)], .agg [.lit (.int .u8 0), .lit (.int .u8 0)], .agg [.lit (.int .u8 0), .lit (.int .u8 0)], .agg [.lit (.int .u8 0), .lit (.int .u8 0)], .agg [.lit (.int .u8 0), .lit (.int .u8 0)]]
/-- One of Go's own tables, pinned by name: the form's constant. -/
def laid_unicode_utf8_first : DataW Unit := Go.Pinned.utf8First

/-- 'bindlelaw15.MemberFolders': WHATEVER THE INPUT: true; the input reads as it did. -/
def memberFoldersSpec : ChangeSpec := { name := "memberFolders", fn := fun _ => fun
  | [d1, d2] => { results := [.lit (.bool true)], args := [d1, d2] }
  | _ => none }
def memberFoldersRow : OpenClaim := { program := "ytcfcbkcaondfcaadoor", sum := "358790b66362ec8638f93dd1b5bdbd258bb058433372d8c6f15d1f38f012956e", func := "bindle/bindlelaw15.MemberFolders", spec := "memberFolders", inPlace := ["internal/bytealg.CountString", "internal/bytealg.IndexByteString", "internal/bytealg.IndexString"], unfollowed := true, recurses := true, named := ["unicode/utf8.first", "unicode/utf8.acceptRanges", "internal/bytealg.MaxLen"], apart := false, laid := [("unicode/utf8.acceptRanges", laid_unicode_utf8_acceptRanges), ("unicode/utf8.first", laid_unicode_utf8_first)] }
def MemberFoldersSaid : Prop := memberFoldersRow.holds Tryd.pinned (OpenSpec.ofChange memberFoldersSpec)

/-- ITS FALSE NEIGHBOUR: 'it returns false'. Refute it at one input. -/
def memberFoldersWrong : ChangeSpec := { name := "memberFolders", fn := fun _ => fun
  | [d1, d2] => { results := [.lit (.bool false)], args := [d1, d2] }
  | _ => none }
def MemberFoldersWrongFalsely : Prop := memberFoldersRow.holds Tryd.pinned (OpenSpec.ofChange memberFoldersWrong)

/-- 'bindlelaw15.MemberSorts': WHATEVER THE INPUT: true; the input reads as it did. -/
def memberSortsSpec : ChangeSpec := { name := "memberSorts", fn := fun _ => fun
  | [d1, d2] => { results := [.lit (.bool true)], args := [d1, d2] }
  | _ => none }
def memberSortsRow : OpenClaim := { program := "ytcfcbkcaondfcaadoor", sum := "358790b66362ec8638f93dd1b5bdbd258bb058433372d8c6f15d1f38f012956e", func := "bindle/bindlelaw15.MemberSorts", spec := "memberSorts", inPlace := ["internal/bytealg.CountString", "internal/bytealg.IndexByteString", "internal/bytealg.IndexString"], unfollowed := true, recurses := true, named := ["unicode/utf8.first", "unicode/utf8.acceptRanges", "internal/bytealg.MaxLen"], apart := false, laid := [("unicode/utf8.acceptRanges", laid_unicode_utf8_acceptRanges), ("unicode/utf8.first", laid_unicode_utf8_first)] }
def MemberSortsSaid : Prop := memberSortsRow.holds Tryd.pinned (OpenSpec.ofChange memberSortsSpec)

/-- ITS FALSE NEIGHBOUR: 'it returns false'. Refute it at one input. -/
def memberSortsWrong : ChangeSpec := { name := "memberSorts", fn := fun _ => fun
  | [d1, d2] => { results := [.lit (.bool false)], args := [d1, d2] }
  | _ => none }
def MemberSortsWrongFalsely : Prop := memberSortsRow.holds Tryd.pinned (OpenSpec.ofChange memberSortsWrong)

/-- 'bindlelaw15.MemberRights': WHATEVER THE INPUT: true; the input reads as it did. -/
def memberRightsSpec : ChangeSpec := { name := "memberRights", fn := fun _ => fun
  | [d] => { results := [.lit (.bool true)], args := [d] }
  | _ => none }
def memberRightsRow : OpenClaim := { program := "ytcfcbkcaondfcaadoor", sum := "358790b66362ec8638f93dd1b5bdbd258bb058433372d8c6f15d1f38f012956e", func := "bindle/bindlelaw15.MemberRights", spec := "memberRights", inPlace := ["internal/bytealg.CountString", "internal/bytealg.IndexByteString", "internal/bytealg.IndexString"], unfollowed := true, recurses := true, named := ["unicode/utf8.first", "unicode/utf8.acceptRanges", "internal/bytealg.MaxLen"], apart := false, laid := [("unicode/utf8.acceptRanges", laid_unicode_utf8_acceptRanges), ("unicode/utf8.first", laid_unicode_utf8_first)] }
def MemberRightsSaid : Prop := memberRightsRow.holds Tryd.pinned (OpenSpec.ofChange memberRightsSpec)

/-- ITS FALSE NEIGHBOUR: 'it returns false'. Refute it at one input. -/
def memberRightsWrong : ChangeSpec := { name := "memberRights", fn := fun _ => fun
  | [d] => { results := [.lit (.bool false)], args := [d] }
  | _ => none }
def MemberRightsWrongFalsely : Prop := memberRightsRow.holds Tryd.pinned (OpenSpec.ofChange memberRightsWrong)

/-- 'bindlelaw15.MemberJoins': WHATEVER THE INPUT: true; the input reads as it did. -/
def memberJoinsSpec : ChangeSpec := { name := "memberJoins", fn := fun _ => fun
  | [d1, d2] => { results := [.lit (.bool true)], args := [d1, d2] }
  | _ => none }
def memberJoinsRow : OpenClaim := { program := "ytcfcbkcaondfcaadoor", sum := "358790b66362ec8638f93dd1b5bdbd258bb058433372d8c6f15d1f38f012956e", func := "bindle/bindlelaw15.MemberJoins", spec := "memberJoins", inPlace := ["internal/bytealg.CountString", "internal/bytealg.IndexByteString", "internal/bytealg.IndexString"], unfollowed := true, recurses := true, named := ["unicode/utf8.first", "unicode/utf8.acceptRanges", "internal/bytealg.MaxLen"], apart := false, laid := [("unicode/utf8.acceptRanges", laid_unicode_utf8_acceptRanges), ("unicode/utf8.first", laid_unicode_utf8_first)] }
def MemberJoinsSaid : Prop := memberJoinsRow.holds Tryd.pinned (OpenSpec.ofChange memberJoinsSpec)

/-- ITS FALSE NEIGHBOUR: 'it returns false'. Refute it at one input. -/
def memberJoinsWrong : ChangeSpec := { name := "memberJoins", fn := fun _ => fun
  | [d1, d2] => { results := [.lit (.bool false)], args := [d1, d2] }
  | _ => none }
def MemberJoinsWrongFalsely : Prop := memberJoinsRow.holds Tryd.pinned (OpenSpec.ofChange memberJoinsWrong)

/-- 'bindlelaw38.PlanDiffs': WHATEVER THE INPUT: true; the input reads as it did. -/
def planDiffsSpec : ChangeSpec := { name := "planDiffs", fn := fun _ => fun
  | [d1, d2] => { results := [.lit (.bool true)], args := [d1, d2] }
  | _ => none }
def planDiffsRow : OpenClaim := { program := "ytcfcbkcaondfcaadoor", sum := "358790b66362ec8638f93dd1b5bdbd258bb058433372d8c6f15d1f38f012956e", func := "bindle/bindlelaw38.PlanDiffs", spec := "planDiffs", inPlace := ["internal/bytealg.abigen_runtime_cmpstring", "internal/bytealg.CountString", "internal/bytealg.IndexByteString", "internal/bytealg.IndexString"], unfollowed := true, recurses := true, named := ["unicode/utf8.first", "unicode/utf8.acceptRanges", "internal/bytealg.MaxLen"], apart := false, laid := [("unicode/utf8.acceptRanges", laid_unicode_utf8_acceptRanges), ("unicode/utf8.first", laid_unicode_utf8_first)] }
def PlanDiffsSaid : Prop := planDiffsRow.holds Tryd.pinned (OpenSpec.ofChange planDiffsSpec)

/-- ITS FALSE NEIGHBOUR: 'it returns false'. Refute it at one input. -/
def planDiffsWrong : ChangeSpec := { name := "planDiffs", fn := fun _ => fun
  | [d1, d2] => { results := [.lit (.bool false)], args := [d1, d2] }
  | _ => none }
def PlanDiffsWrongFalsely : Prop := planDiffsRow.holds Tryd.pinned (OpenSpec.ofChange planDiffsWrong)

/-- 'bindlelaw38.PlanApplies': WHATEVER THE INPUT: true; the input reads as it did. -/
def planAppliesSpec : ChangeSpec := { name := "planApplies", fn := fun _ => fun
  | [d1, d2] => { results := [.lit (.bool true)], args := [d1, d2] }
  | _ => none }
def planAppliesRow : OpenClaim := { program := "ytcfcbkcaondfcaadoor", sum := "358790b66362ec8638f93dd1b5bdbd258bb058433372d8c6f15d1f38f012956e", func := "bindle/bindlelaw38.PlanApplies", spec := "planApplies", inPlace := ["internal/bytealg.abigen_runtime_cmpstring", "internal/bytealg.CountString", "internal/bytealg.IndexByteString", "internal/bytealg.IndexString", "slices.overlaps[bindle/api.File]"], unfollowed := true, recurses := true, named := ["unicode/utf8.first", "unicode/utf8.acceptRanges", "internal/bytealg.MaxLen"], apart := false, laid := [("unicode/utf8.acceptRanges", laid_unicode_utf8_acceptRanges), ("unicode/utf8.first", laid_unicode_utf8_first)] }
def PlanAppliesSaid : Prop := planAppliesRow.holds Tryd.pinned (OpenSpec.ofChange planAppliesSpec)

/-- ITS FALSE NEIGHBOUR: 'it returns false'. Refute it at one input. -/
def planAppliesWrong : ChangeSpec := { name := "planApplies", fn := fun _ => fun
  | [d1, d2] => { results := [.lit (.bool false)], args := [d1, d2] }
  | _ => none }
def PlanAppliesWrongFalsely : Prop := planAppliesRow.holds Tryd.pinned (OpenSpec.ofChange planAppliesWrong)

/-- 'bindlelaw38.PlanLeads': WHATEVER THE INPUT: true; the input reads as it did. -/
def planLeadsSpec : ChangeSpec := { name := "planLeads", fn := fun _ => fun
  | [d1, d2, d3] => { results := [.lit (.bool true)], args := [d1, d2, d3] }
  | _ => none }
def planLeadsRow : OpenClaim := { program := "ytcfcbkcaondfcaadoor", sum := "358790b66362ec8638f93dd1b5bdbd258bb058433372d8c6f15d1f38f012956e", func := "bindle/bindlelaw38.PlanLeads", spec := "planLeads", inPlace := ["internal/bytealg.abigen_runtime_cmpstring", "internal/bytealg.CountString", "internal/bytealg.IndexByteString", "internal/bytealg.IndexString", "slices.overlaps[bindle/api.File]"], unfollowed := true, recurses := true, named := ["unicode/utf8.first", "unicode/utf8.acceptRanges", "internal/bytealg.MaxLen"], apart := false, laid := [("unicode/utf8.acceptRanges", laid_unicode_utf8_acceptRanges), ("unicode/utf8.first", laid_unicode_utf8_first)] }
def PlanLeadsSaid : Prop := planLeadsRow.holds Tryd.pinned (OpenSpec.ofChange planLeadsSpec)

/-- ITS FALSE NEIGHBOUR: 'it returns false'. Refute it at one input. -/
def planLeadsWrong : ChangeSpec := { name := "planLeads", fn := fun _ => fun
  | [d1, d2, d3] => { results := [.lit (.bool false)], args := [d1, d2, d3] }
  | _ => none }
def PlanLeadsWrongFalsely : Prop := planLeadsRow.holds Tryd.pinned (OpenSpec.ofChange planLeadsWrong)

/-- 'bindlelaw38.PlanJoins': WHATEVER THE INPUT: true; the input reads as it did. -/
def planJoinsSpec : ChangeSpec := { name := "planJoins", fn := fun _ => fun
  | [d1, d2, d3] => { results := [.lit (.bool true)], args := [d1, d2, d3] }
  | _ => none }
def planJoinsRow : OpenClaim := { program := "ytcfcbkcaondfcaadoor", sum := "358790b66362ec8638f93dd1b5bdbd258bb058433372d8c6f15d1f38f012956e", func := "bindle/bindlelaw38.PlanJoins", spec := "planJoins", inPlace := ["internal/bytealg.abigen_runtime_cmpstring", "internal/bytealg.CountString", "internal/bytealg.IndexByteString", "internal/bytealg.IndexString", "slices.overlaps[bindle/api.File]"], unfollowed := true, recurses := true, named := ["unicode/utf8.first", "unicode/utf8.acceptRanges", "internal/bytealg.MaxLen"], apart := false, laid := [("unicode/utf8.acceptRanges", laid_unicode_utf8_acceptRanges), ("unicode/utf8.first", laid_unicode_utf8_first)] }
def PlanJoinsSaid : Prop := planJoinsRow.holds Tryd.pinned (OpenSpec.ofChange planJoinsSpec)

/-- ITS FALSE NEIGHBOUR: 'it returns false'. Refute it at one input. -/
def planJoinsWrong : ChangeSpec := { name := "planJoins", fn := fun _ => fun
  | [d1, d2, d3] => { results := [.lit (.bool false)], args := [d1, d2, d3] }
  | _ => none }
def PlanJoinsWrongFalsely : Prop := planJoinsRow.holds Tryd.pinned (OpenSpec.ofChange planJoinsWrong)

/- THE SECOND FORM. 'bulk': how many values and letters a reading holds, each counted each time it is reached (what is shared counts as often as it is met; a slice's spare places count too). A statement '..UptoSaid' is the law's where the arguments, and the package variables that the reading takes, are together of bulk at most 1048576: NARROWER than '..Said'. Prove '..Said' where nothing that the law and all that it calls make is longer than what came in: it says more and counts as full. Else prove '..UptoSaid'. A law counts once. -/
mutual
def uptoBulk {H : Type} : DataW H → Nat
  | .lit (.string bytes) => bytes.length + 1
  | .lit _ => 1
  | .nil => 1
  | .ptr d => uptoBulk d + 1
  | .slice elems spare => uptoBulkAll elems + uptoBulkAll spare + 1
  | .agg parts => uptoBulkAll parts + 1
  | .iface _ d => uptoBulk d + 1
  | .map entries => uptoBulkEntries entries + 1
  | .held _ => 1
def uptoBulkAll {H : Type} : List (DataW H) → Nat
  | [] => 0
  | d :: r => uptoBulk d + uptoBulkAll r
def uptoBulkEntries {H : Type} : List (Lit × DataW H) → Nat
  | [] => 0
  | x :: r => uptoBulkEntry x + uptoBulkEntries r
def uptoBulkEntry {H : Type} : Lit × DataW H → Nat
  | (.string bytes, d) => bytes.length + uptoBulk d + 1
  | (_, d) => uptoBulk d + 1
 end
def uptoSmall : (H : Type) → List (DataW H) → Bool := fun _ ds => decide (uptoBulkAll ds ≤ 1048576)
def OpenSpec.upto (s : _root_.Go.ChangeSpec) : _root_.Go.OpenSpec := { _root_.Go.OpenSpec.ofChange s with cond := some uptoSmall }

/-- 'bindlelaw15.MemberFolders', WHERE WHAT IT READS IS OF BULK AT MOST 1048576: true; the input reads as it did. -/
def memberFoldersUptoRow : OpenClaim := { program := "ytcfcbkcaondfcaadoor", sum := "358790b66362ec8638f93dd1b5bdbd258bb058433372d8c6f15d1f38f012956e", func := "bindle/bindlelaw15.MemberFolders", spec := "memberFolders", inPlace := ["internal/bytealg.CountString", "internal/bytealg.IndexByteString", "internal/bytealg.IndexString"], unfollowed := true, recurses := true, named := ["unicode/utf8.first", "unicode/utf8.acceptRanges", "internal/bytealg.MaxLen"], apart := false, laid := [("unicode/utf8.acceptRanges", laid_unicode_utf8_acceptRanges), ("unicode/utf8.first", laid_unicode_utf8_first)], narrowed := true }
def MemberFoldersUptoSaid : Prop := memberFoldersUptoRow.holds Tryd.pinned (OpenSpec.upto memberFoldersSpec)

/-- 'bindlelaw15.MemberSorts', WHERE WHAT IT READS IS OF BULK AT MOST 1048576: true; the input reads as it did. -/
def memberSortsUptoRow : OpenClaim := { program := "ytcfcbkcaondfcaadoor", sum := "358790b66362ec8638f93dd1b5bdbd258bb058433372d8c6f15d1f38f012956e", func := "bindle/bindlelaw15.MemberSorts", spec := "memberSorts", inPlace := ["internal/bytealg.CountString", "internal/bytealg.IndexByteString", "internal/bytealg.IndexString"], unfollowed := true, recurses := true, named := ["unicode/utf8.first", "unicode/utf8.acceptRanges", "internal/bytealg.MaxLen"], apart := false, laid := [("unicode/utf8.acceptRanges", laid_unicode_utf8_acceptRanges), ("unicode/utf8.first", laid_unicode_utf8_first)], narrowed := true }
def MemberSortsUptoSaid : Prop := memberSortsUptoRow.holds Tryd.pinned (OpenSpec.upto memberSortsSpec)

/-- 'bindlelaw15.MemberRights', WHERE WHAT IT READS IS OF BULK AT MOST 1048576: true; the input reads as it did. -/
def memberRightsUptoRow : OpenClaim := { program := "ytcfcbkcaondfcaadoor", sum := "358790b66362ec8638f93dd1b5bdbd258bb058433372d8c6f15d1f38f012956e", func := "bindle/bindlelaw15.MemberRights", spec := "memberRights", inPlace := ["internal/bytealg.CountString", "internal/bytealg.IndexByteString", "internal/bytealg.IndexString"], unfollowed := true, recurses := true, named := ["unicode/utf8.first", "unicode/utf8.acceptRanges", "internal/bytealg.MaxLen"], apart := false, laid := [("unicode/utf8.acceptRanges", laid_unicode_utf8_acceptRanges), ("unicode/utf8.first", laid_unicode_utf8_first)], narrowed := true }
def MemberRightsUptoSaid : Prop := memberRightsUptoRow.holds Tryd.pinned (OpenSpec.upto memberRightsSpec)

/-- 'bindlelaw15.MemberJoins', WHERE WHAT IT READS IS OF BULK AT MOST 1048576: true; the input reads as it did. -/
def memberJoinsUptoRow : OpenClaim := { program := "ytcfcbkcaondfcaadoor", sum := "358790b66362ec8638f93dd1b5bdbd258bb058433372d8c6f15d1f38f012956e", func := "bindle/bindlelaw15.MemberJoins", spec := "memberJoins", inPlace := ["internal/bytealg.CountString", "internal/bytealg.IndexByteString", "internal/bytealg.IndexString"], unfollowed := true, recurses := true, named := ["unicode/utf8.first", "unicode/utf8.acceptRanges", "internal/bytealg.MaxLen"], apart := false, laid := [("unicode/utf8.acceptRanges", laid_unicode_utf8_acceptRanges), ("unicode/utf8.first", laid_unicode_utf8_first)], narrowed := true }
def MemberJoinsUptoSaid : Prop := memberJoinsUptoRow.holds Tryd.pinned (OpenSpec.upto memberJoinsSpec)

/-- 'bindlelaw38.PlanDiffs', WHERE WHAT IT READS IS OF BULK AT MOST 1048576: true; the input reads as it did. -/
def planDiffsUptoRow : OpenClaim := { program := "ytcfcbkcaondfcaadoor", sum := "358790b66362ec8638f93dd1b5bdbd258bb058433372d8c6f15d1f38f012956e", func := "bindle/bindlelaw38.PlanDiffs", spec := "planDiffs", inPlace := ["internal/bytealg.abigen_runtime_cmpstring", "internal/bytealg.CountString", "internal/bytealg.IndexByteString", "internal/bytealg.IndexString"], unfollowed := true, recurses := true, named := ["unicode/utf8.first", "unicode/utf8.acceptRanges", "internal/bytealg.MaxLen"], apart := false, laid := [("unicode/utf8.acceptRanges", laid_unicode_utf8_acceptRanges), ("unicode/utf8.first", laid_unicode_utf8_first)], narrowed := true }
def PlanDiffsUptoSaid : Prop := planDiffsUptoRow.holds Tryd.pinned (OpenSpec.upto planDiffsSpec)

/-- 'bindlelaw38.PlanApplies', WHERE WHAT IT READS IS OF BULK AT MOST 1048576: true; the input reads as it did. -/
def planAppliesUptoRow : OpenClaim := { program := "ytcfcbkcaondfcaadoor", sum := "358790b66362ec8638f93dd1b5bdbd258bb058433372d8c6f15d1f38f012956e", func := "bindle/bindlelaw38.PlanApplies", spec := "planApplies", inPlace := ["internal/bytealg.abigen_runtime_cmpstring", "internal/bytealg.CountString", "internal/bytealg.IndexByteString", "internal/bytealg.IndexString", "slices.overlaps[bindle/api.File]"], unfollowed := true, recurses := true, named := ["unicode/utf8.first", "unicode/utf8.acceptRanges", "internal/bytealg.MaxLen"], apart := false, laid := [("unicode/utf8.acceptRanges", laid_unicode_utf8_acceptRanges), ("unicode/utf8.first", laid_unicode_utf8_first)], narrowed := true }
def PlanAppliesUptoSaid : Prop := planAppliesUptoRow.holds Tryd.pinned (OpenSpec.upto planAppliesSpec)

/-- 'bindlelaw38.PlanLeads', WHERE WHAT IT READS IS OF BULK AT MOST 1048576: true; the input reads as it did. -/
def planLeadsUptoRow : OpenClaim := { program := "ytcfcbkcaondfcaadoor", sum := "358790b66362ec8638f93dd1b5bdbd258bb058433372d8c6f15d1f38f012956e", func := "bindle/bindlelaw38.PlanLeads", spec := "planLeads", inPlace := ["internal/bytealg.abigen_runtime_cmpstring", "internal/bytealg.CountString", "internal/bytealg.IndexByteString", "internal/bytealg.IndexString", "slices.overlaps[bindle/api.File]"], unfollowed := true, recurses := true, named := ["unicode/utf8.first", "unicode/utf8.acceptRanges", "internal/bytealg.MaxLen"], apart := false, laid := [("unicode/utf8.acceptRanges", laid_unicode_utf8_acceptRanges), ("unicode/utf8.first", laid_unicode_utf8_first)], narrowed := true }
def PlanLeadsUptoSaid : Prop := planLeadsUptoRow.holds Tryd.pinned (OpenSpec.upto planLeadsSpec)

/-- 'bindlelaw38.PlanJoins', WHERE WHAT IT READS IS OF BULK AT MOST 1048576: true; the input reads as it did. -/
def planJoinsUptoRow : OpenClaim := { program := "ytcfcbkcaondfcaadoor", sum := "358790b66362ec8638f93dd1b5bdbd258bb058433372d8c6f15d1f38f012956e", func := "bindle/bindlelaw38.PlanJoins", spec := "planJoins", inPlace := ["internal/bytealg.abigen_runtime_cmpstring", "internal/bytealg.CountString", "internal/bytealg.IndexByteString", "internal/bytealg.IndexString", "slices.overlaps[bindle/api.File]"], unfollowed := true, recurses := true, named := ["unicode/utf8.first", "unicode/utf8.acceptRanges", "internal/bytealg.MaxLen"], apart := false, laid := [("unicode/utf8.acceptRanges", laid_unicode_utf8_acceptRanges), ("unicode/utf8.first", laid_unicode_utf8_first)], narrowed := true }
def PlanJoinsUptoSaid : Prop := planJoinsUptoRow.holds Tryd.pinned (OpenSpec.upto planJoinsSpec)

end Rows
end Go.Proofs.YtcfcbkcaondfcaaDoor
