/-
  DERIVED. GIVEN WITH THE SEED: THE CARDS: each row of YtkghgjehjchajaaDoorRows.lean that lists a variable, with what it lists TIED to the program's text (the seventh form; the later family's looks); each row that meets fmt, with fmt's text TOLD by the authors' own Lean function (tested against real Go, not proved from fmt's source: count such statements apart). THE CARD IS WHAT COUNTS. Prove the row's statement (the work); the ties are given (YtkghgjehjchajaaDoorTie.lean); close each card by the builder's one call (the guide's Derived/Test/ToyasCard.lean, 'card_holds'). Laid BY PROGRAM, IN A SANDBOX (cutbox-door.mjs). By AI agents, Wed Nov 11 2026. No macro, syntax, notation, axiom, sorry.
-/
import Derived.Test.YtkghgjehjchajaaDoorRows
import GoSem.ClaimSeven
namespace Go.Proofs.YtkghgjehjchajaaDoor
namespace Rows

/-- THE TIED CARD OF 'laws.FnExactEncodeSnap'. -/
def fnExactEncodeSnapCard : Claim7 := { stood := { row := fnExactEncodeSnapRow, standIns := [], harness := (true, "d4253d86f6627405cdd3b038557e2eb81f28eab9c55d1e1756113dc26823e38c"), looks := true }, kinds := [], alts := [], laidByText := true, laidKinds := [.widerDeep], laidTests := true, laidLooks := .later }
def FnExactEncodeSnapCardSaid : Prop := Claim7.holds Tryd.pinned (.plain (OpenSpec.ofChange fnExactEncodeSnapSpec)) fnExactEncodeSnapCard

/-- THE TIED CARD OF 'laws.FnExactDecodeSnap'. -/
def fnExactDecodeSnapCard : Claim7 := { stood := { row := fnExactDecodeSnapRow, standIns := [], harness := (true, "d4253d86f6627405cdd3b038557e2eb81f28eab9c55d1e1756113dc26823e38c"), looks := true }, kinds := [], alts := [], laidByText := true, laidKinds := [.widerDeep], laidTests := true, laidLooks := .later }
def FnExactDecodeSnapCardSaid : Prop := Claim7.holds Tryd.pinned (.plain (OpenSpec.ofChange fnExactDecodeSnapSpec)) fnExactDecodeSnapCard

/-- THE TIED CARD OF 'laws.FnExactEncodeFsinfo'. -/
def fnExactEncodeFsinfoCard : Claim7 := { stood := { row := fnExactEncodeFsinfoRow, standIns := [], harness := (true, "d4253d86f6627405cdd3b038557e2eb81f28eab9c55d1e1756113dc26823e38c"), looks := true }, kinds := [], alts := [], laidByText := true, laidKinds := [.widerDeep], laidTests := true, laidLooks := .later }
def FnExactEncodeFsinfoCardSaid : Prop := Claim7.holds Tryd.pinned (.plain (OpenSpec.ofChange fnExactEncodeFsinfoSpec)) fnExactEncodeFsinfoCard

/-- THE TIED CARD OF 'laws.FnExactDecodeFsinfo'. -/
def fnExactDecodeFsinfoCard : Claim7 := { stood := { row := fnExactDecodeFsinfoRow, standIns := [], harness := (true, "d4253d86f6627405cdd3b038557e2eb81f28eab9c55d1e1756113dc26823e38c"), looks := true }, kinds := [], alts := [], laidByText := true, laidKinds := [.widerDeep], laidTests := true, laidLooks := .later }
def FnExactDecodeFsinfoCardSaid : Prop := Claim7.holds Tryd.pinned (.plain (OpenSpec.ofChange fnExactDecodeFsinfoSpec)) fnExactDecodeFsinfoCard

/-- THE TIED CARD OF 'laws.FnExactCpSteps'. -/
def fnExactCpStepsCard : Claim7 := { stood := { row := fnExactCpStepsRow, standIns := [], harness := (true, "d4253d86f6627405cdd3b038557e2eb81f28eab9c55d1e1756113dc26823e38c"), looks := true }, kinds := [], alts := [], laidByText := true, laidKinds := [.widerDeep], laidTests := true, laidLooks := .later }
def FnExactCpStepsCardSaid : Prop := Claim7.holds Tryd.pinned (.plain (OpenSpec.ofChange fnExactCpStepsSpec)) fnExactCpStepsCard

/-- THE TIED CARD OF 'laws.FnExactChooseFsinfo'. -/
def fnExactChooseFsinfoCard : Claim7 := { stood := { row := fnExactChooseFsinfoRow, standIns := [], harness := (true, "d4253d86f6627405cdd3b038557e2eb81f28eab9c55d1e1756113dc26823e38c"), looks := true }, kinds := [], alts := [], laidByText := true, laidKinds := [.handle, .widerDeep], laidTests := true, laidLooks := .later }
def FnExactChooseFsinfoCardSaid : Prop := Claim7.holds Tryd.pinned (.plain (OpenSpec.ofChange fnExactChooseFsinfoSpec)) fnExactChooseFsinfoCard

/-- THE SECOND FORM's CARD OF 'laws.FnExactEncodeSnap'. -/
def fnExactEncodeSnapUptoCard : Claim7 := { stood := { row := fnExactEncodeSnapUptoRow, standIns := [], harness := (true, "d4253d86f6627405cdd3b038557e2eb81f28eab9c55d1e1756113dc26823e38c"), looks := true }, kinds := [], alts := [], laidByText := true, laidKinds := [.widerDeep], laidTests := true, laidLooks := .later }
def FnExactEncodeSnapUptoCardSaid : Prop := Claim7.holds Tryd.pinned (.plain (OpenSpec.upto fnExactEncodeSnapSpec)) fnExactEncodeSnapUptoCard

/-- THE SECOND FORM's CARD OF 'laws.FnExactDecodeSnap'. -/
def fnExactDecodeSnapUptoCard : Claim7 := { stood := { row := fnExactDecodeSnapUptoRow, standIns := [], harness := (true, "d4253d86f6627405cdd3b038557e2eb81f28eab9c55d1e1756113dc26823e38c"), looks := true }, kinds := [], alts := [], laidByText := true, laidKinds := [.widerDeep], laidTests := true, laidLooks := .later }
def FnExactDecodeSnapUptoCardSaid : Prop := Claim7.holds Tryd.pinned (.plain (OpenSpec.upto fnExactDecodeSnapSpec)) fnExactDecodeSnapUptoCard

/-- THE SECOND FORM's CARD OF 'laws.FnExactEncodeFsinfo'. -/
def fnExactEncodeFsinfoUptoCard : Claim7 := { stood := { row := fnExactEncodeFsinfoUptoRow, standIns := [], harness := (true, "d4253d86f6627405cdd3b038557e2eb81f28eab9c55d1e1756113dc26823e38c"), looks := true }, kinds := [], alts := [], laidByText := true, laidKinds := [.widerDeep], laidTests := true, laidLooks := .later }
def FnExactEncodeFsinfoUptoCardSaid : Prop := Claim7.holds Tryd.pinned (.plain (OpenSpec.upto fnExactEncodeFsinfoSpec)) fnExactEncodeFsinfoUptoCard

/-- THE SECOND FORM's CARD OF 'laws.FnExactDecodeFsinfo'. -/
def fnExactDecodeFsinfoUptoCard : Claim7 := { stood := { row := fnExactDecodeFsinfoUptoRow, standIns := [], harness := (true, "d4253d86f6627405cdd3b038557e2eb81f28eab9c55d1e1756113dc26823e38c"), looks := true }, kinds := [], alts := [], laidByText := true, laidKinds := [.widerDeep], laidTests := true, laidLooks := .later }
def FnExactDecodeFsinfoUptoCardSaid : Prop := Claim7.holds Tryd.pinned (.plain (OpenSpec.upto fnExactDecodeFsinfoSpec)) fnExactDecodeFsinfoUptoCard

/-- THE SECOND FORM's CARD OF 'laws.FnExactCpSteps'. -/
def fnExactCpStepsUptoCard : Claim7 := { stood := { row := fnExactCpStepsUptoRow, standIns := [], harness := (true, "d4253d86f6627405cdd3b038557e2eb81f28eab9c55d1e1756113dc26823e38c"), looks := true }, kinds := [], alts := [], laidByText := true, laidKinds := [.widerDeep], laidTests := true, laidLooks := .later }
def FnExactCpStepsUptoCardSaid : Prop := Claim7.holds Tryd.pinned (.plain (OpenSpec.upto fnExactCpStepsSpec)) fnExactCpStepsUptoCard

/-- THE SECOND FORM's CARD OF 'laws.FnExactChooseFsinfo'. -/
def fnExactChooseFsinfoUptoCard : Claim7 := { stood := { row := fnExactChooseFsinfoUptoRow, standIns := [], harness := (true, "d4253d86f6627405cdd3b038557e2eb81f28eab9c55d1e1756113dc26823e38c"), looks := true }, kinds := [], alts := [], laidByText := true, laidKinds := [.handle, .widerDeep], laidTests := true, laidLooks := .later }
def FnExactChooseFsinfoUptoCardSaid : Prop := Claim7.holds Tryd.pinned (.plain (OpenSpec.upto fnExactChooseFsinfoSpec)) fnExactChooseFsinfoUptoCard
end Rows
end Go.Proofs.YtkghgjehjchajaaDoor
