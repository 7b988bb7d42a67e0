/-
  DERIVED. GIVEN WITH THE SEED: THE CARDS: each row of YtknlpjoidjgciaaDoorRows.lean that lists a variable, with what it lists TIED to the program's text (the seventh form; the later family's looks); each row that meets fmt, with fmt's text TOLD by the authors' own Lean function (tested against real Go, not proved from fmt's source: count such statements apart). THE CARD IS WHAT COUNTS. Prove the row's statement (the work); the ties are given (YtknlpjoidjgciaaDoorTie.lean); close each card by the builder's one call (the guide's Derived/Test/ToyasCard.lean, 'card_holds'). Laid BY PROGRAM, IN A SANDBOX (cutbox-door.mjs). By AI agents, Wed Nov 11 2026. No macro, syntax, notation, axiom, sorry.
-/
import Derived.Test.YtknlpjoidjgciaaDoorRows
import GoSem.ClaimSeven
namespace Go.Proofs.YtknlpjoidjgciaaDoor
namespace Rows

/-- THE TIED CARD OF 'laws.FnExactTellAns'. -/
def fnExactTellAnsCard : Claim7 := { stood := { row := fnExactTellAnsRow, standIns := [], harness := (true, "eb0911b871f1ee252f46cfadba8cf0bd9f72c828f77fcde7ee53193799ddb601"), looks := true }, kinds := [], alts := [], laidByText := true, laidKinds := [.data, .data, .data], laidTests := true, laidLooks := .later }
def FnExactTellAnsCardSaid : Prop := Claim7.holds Tryd.pinned (.plain (OpenSpec.ofChange fnExactTellAnsSpec)) fnExactTellAnsCard

/-- THE TIED CARD OF 'laws.FnExactSplitPath'. -/
def fnExactSplitPathCard : Claim7 := { stood := { row := fnExactSplitPathRow, standIns := [], harness := (true, "eb0911b871f1ee252f46cfadba8cf0bd9f72c828f77fcde7ee53193799ddb601"), looks := true }, kinds := [], alts := [], laidByText := true, laidKinds := [.data, .handle, .pinned], laidTests := true, laidLooks := .later }
def FnExactSplitPathCardSaid : Prop := Claim7.holds Tryd.pinned (.plain (OpenSpec.ofChange fnExactSplitPathSpec)) fnExactSplitPathCard

/-- THE TIED CARD OF 'laws.FnExactDiskRun'. -/
def fnExactDiskRunCard : Claim7 := { stood := { row := fnExactDiskRunRow, standIns := [], harness := (true, "eb0911b871f1ee252f46cfadba8cf0bd9f72c828f77fcde7ee53193799ddb601"), looks := true }, kinds := [], alts := [], laidByText := true, laidKinds := [.handle], laidTests := true, laidLooks := .later }
def FnExactDiskRunCardSaid : Prop := Claim7.holds Tryd.pinned (.plain (OpenSpec.ofChange fnExactDiskRunSpec)) fnExactDiskRunCard

/-- THE TIED CARD OF 'laws.FnDisk'. -/
def fnDiskCard : Claim7 := { stood := { row := fnDiskRow, standIns := [], harness := (true, "eb0911b871f1ee252f46cfadba8cf0bd9f72c828f77fcde7ee53193799ddb601"), looks := true }, kinds := [], alts := [], laidByText := true, laidKinds := [.handle], laidTests := true, laidLooks := .later }
def FnDiskCardSaid : Prop := Claim7.holds Tryd.pinned (.plain (OpenSpec.ofChange fnDiskSpec)) fnDiskCard

/-- THE TIED CARD OF 'laws.FnExactSnapshots'. -/
def fnExactSnapshotsCard : Claim7 := { stood := { row := fnExactSnapshotsRow, standIns := [], harness := (true, "eb0911b871f1ee252f46cfadba8cf0bd9f72c828f77fcde7ee53193799ddb601"), looks := true }, kinds := [], alts := [], laidByText := true, laidKinds := [.handle, .widerDeep, .widerDeep], laidTests := true, laidLooks := .later }
def FnExactSnapshotsCardSaid : Prop := Claim7.holds Tryd.pinned (.plain (OpenSpec.ofChange fnExactSnapshotsSpec)) fnExactSnapshotsCard

/-- THE SECOND FORM's CARD OF 'laws.FnExactTellAns'. -/
def fnExactTellAnsUptoCard : Claim7 := { stood := { row := fnExactTellAnsUptoRow, standIns := [], harness := (true, "eb0911b871f1ee252f46cfadba8cf0bd9f72c828f77fcde7ee53193799ddb601"), looks := true }, kinds := [], alts := [], laidByText := true, laidKinds := [.data, .data, .data], laidTests := true, laidLooks := .later }
def FnExactTellAnsUptoCardSaid : Prop := Claim7.holds Tryd.pinned (.plain (OpenSpec.upto fnExactTellAnsSpec)) fnExactTellAnsUptoCard

/-- THE SECOND FORM's CARD OF 'laws.FnExactSplitPath'. -/
def fnExactSplitPathUptoCard : Claim7 := { stood := { row := fnExactSplitPathUptoRow, standIns := [], harness := (true, "eb0911b871f1ee252f46cfadba8cf0bd9f72c828f77fcde7ee53193799ddb601"), looks := true }, kinds := [], alts := [], laidByText := true, laidKinds := [.data, .handle, .pinned], laidTests := true, laidLooks := .later }
def FnExactSplitPathUptoCardSaid : Prop := Claim7.holds Tryd.pinned (.plain (OpenSpec.upto fnExactSplitPathSpec)) fnExactSplitPathUptoCard

/-- THE SECOND FORM's CARD OF 'laws.FnExactDiskRun'. -/
def fnExactDiskRunUptoCard : Claim7 := { stood := { row := fnExactDiskRunUptoRow, standIns := [], harness := (true, "eb0911b871f1ee252f46cfadba8cf0bd9f72c828f77fcde7ee53193799ddb601"), looks := true }, kinds := [], alts := [], laidByText := true, laidKinds := [.handle], laidTests := true, laidLooks := .later }
def FnExactDiskRunUptoCardSaid : Prop := Claim7.holds Tryd.pinned (.plain (OpenSpec.upto fnExactDiskRunSpec)) fnExactDiskRunUptoCard

/-- THE SECOND FORM's CARD OF 'laws.FnDisk'. -/
def fnDiskUptoCard : Claim7 := { stood := { row := fnDiskUptoRow, standIns := [], harness := (true, "eb0911b871f1ee252f46cfadba8cf0bd9f72c828f77fcde7ee53193799ddb601"), looks := true }, kinds := [], alts := [], laidByText := true, laidKinds := [.handle], laidTests := true, laidLooks := .later }
def FnDiskUptoCardSaid : Prop := Claim7.holds Tryd.pinned (.plain (OpenSpec.upto fnDiskSpec)) fnDiskUptoCard

/-- THE SECOND FORM's CARD OF 'laws.FnExactSnapshots'. -/
def fnExactSnapshotsUptoCard : Claim7 := { stood := { row := fnExactSnapshotsUptoRow, standIns := [], harness := (true, "eb0911b871f1ee252f46cfadba8cf0bd9f72c828f77fcde7ee53193799ddb601"), looks := true }, kinds := [], alts := [], laidByText := true, laidKinds := [.handle, .widerDeep, .widerDeep], laidTests := true, laidLooks := .later }
def FnExactSnapshotsUptoCardSaid : Prop := Claim7.holds Tryd.pinned (.plain (OpenSpec.upto fnExactSnapshotsSpec)) fnExactSnapshotsUptoCard
end Rows
end Go.Proofs.YtknlpjoidjgciaaDoor
