/-
  DERIVED. GIVEN WITH THE SEED: THE CARDS: each row of YtfmjcmhofjibmaaDoorRows.lean that lists a variable, with what it lists TIED to the program's text (the seventh form; the later family's looks); each row that meets fmt, with fmt's text TOLD by the authors' own Lean function (tested against real Go, not proved from fmt's source: count such statements apart). THE CARD IS WHAT COUNTS. Prove the row's statement (the work); the ties are given (YtfmjcmhofjibmaaDoorTie.lean); close each card by the builder's one call (the guide's Derived/Test/ToyasCard.lean, 'card_holds'). Laid BY PROGRAM, IN A SANDBOX (cutbox-door.mjs). By AI agents, Wed Nov 11 2026. No macro, syntax, notation, axiom, sorry.
-/
import Derived.Test.YtfmjcmhofjibmaaDoorRows
import GoSem.ClaimSeven
namespace Go.Proofs.YtfmjcmhofjibmaaDoor
namespace Rows

/-- THE TIED CARD OF 'laws.FnExactFormatNumber'. -/
def fnExactFormatNumberCard : Claim7 := { stood := { row := fnExactFormatNumberRow, standIns := [], harness := (true, "2eef0de22bfc974571e8865883a0fd6c84b41d58485be21194b501425f3fe2bf"), looks := true }, kinds := [], alts := [], laidByText := true, laidKinds := [.data, .data, .data], laidTests := true, laidLooks := .later }
def FnExactFormatNumberCardSaid : Prop := Claim7.holds Tryd.pinned (.plain (OpenSpec.ofChange fnExactFormatNumberSpec)) fnExactFormatNumberCard

/-- THE TIED CARD OF 'laws.FnExactFormatCall'. -/
def fnExactFormatCallCard : Claim7 := { stood := { row := fnExactFormatCallRow, standIns := [], harness := (true, "2eef0de22bfc974571e8865883a0fd6c84b41d58485be21194b501425f3fe2bf"), looks := true }, kinds := [], alts := [], laidByText := true, laidKinds := [.data, .data, .data], laidTests := true, laidLooks := .later }
def FnExactFormatCallCardSaid : Prop := Claim7.holds Tryd.pinned (.plain (OpenSpec.ofChange fnExactFormatCallSpec)) fnExactFormatCallCard

/-- THE TIED CARD OF 'laws.FnExactFormatReply'. -/
def fnExactFormatReplyCard : Claim7 := { stood := { row := fnExactFormatReplyRow, standIns := [], harness := (true, "2eef0de22bfc974571e8865883a0fd6c84b41d58485be21194b501425f3fe2bf"), looks := true }, kinds := [], alts := [], laidByText := true, laidKinds := [.data, .data, .data, .data], laidTests := true, laidLooks := .later }
def FnExactFormatReplyCardSaid : Prop := Claim7.holds Tryd.pinned (.plain (OpenSpec.ofChange fnExactFormatReplySpec)) fnExactFormatReplyCard

/-- THE TIED CARD OF 'laws.FnExactFormatCells'. -/
def fnExactFormatCellsCard : Claim7 := { stood := { row := fnExactFormatCellsRow, standIns := [], harness := (true, "2eef0de22bfc974571e8865883a0fd6c84b41d58485be21194b501425f3fe2bf"), looks := true }, kinds := [], alts := [], laidByText := true, laidKinds := [.data, .data, .data], laidTests := true, laidLooks := .later }
def FnExactFormatCellsCardSaid : Prop := Claim7.holds Tryd.pinned (.plain (OpenSpec.ofChange fnExactFormatCellsSpec)) fnExactFormatCellsCard

/-- THE TIED CARD OF 'laws.FnExactParseNumber'. -/
def fnExactParseNumberCard : Claim7 := { stood := { row := fnExactParseNumberRow, standIns := [], harness := (true, "2eef0de22bfc974571e8865883a0fd6c84b41d58485be21194b501425f3fe2bf"), looks := true }, kinds := [], alts := [], laidByText := true, laidKinds := [.data, .data, .data, .sentinel, .sentinel], laidTests := true, laidLooks := .later }
def FnExactParseNumberCardSaid : Prop := Claim7.holds Tryd.pinned (.plain (OpenSpec.ofChange fnExactParseNumberSpec)) fnExactParseNumberCard

/-- THE TIED CARD OF 'laws.FnNumbers'. -/
def fnNumbersCard : Claim7 := { stood := { row := fnNumbersRow, standIns := [], harness := (true, "2eef0de22bfc974571e8865883a0fd6c84b41d58485be21194b501425f3fe2bf"), looks := true }, kinds := [], alts := [], laidByText := true, laidKinds := [.data, .data, .data, .sentinel, .sentinel], laidTests := true, laidLooks := .later }
def FnNumbersCardSaid : Prop := Claim7.holds Tryd.pinned (.plain (OpenSpec.ofChange fnNumbersSpec)) fnNumbersCard

/-- THE SECOND FORM's CARD OF 'laws.FnExactFormatNumber'. -/
def fnExactFormatNumberUptoCard : Claim7 := { stood := { row := fnExactFormatNumberUptoRow, standIns := [], harness := (true, "2eef0de22bfc974571e8865883a0fd6c84b41d58485be21194b501425f3fe2bf"), looks := true }, kinds := [], alts := [], laidByText := true, laidKinds := [.data, .data, .data], laidTests := true, laidLooks := .later }
def FnExactFormatNumberUptoCardSaid : Prop := Claim7.holds Tryd.pinned (.plain (OpenSpec.upto fnExactFormatNumberSpec)) fnExactFormatNumberUptoCard

/-- THE SECOND FORM's CARD OF 'laws.FnExactFormatCall'. -/
def fnExactFormatCallUptoCard : Claim7 := { stood := { row := fnExactFormatCallUptoRow, standIns := [], harness := (true, "2eef0de22bfc974571e8865883a0fd6c84b41d58485be21194b501425f3fe2bf"), looks := true }, kinds := [], alts := [], laidByText := true, laidKinds := [.data, .data, .data], laidTests := true, laidLooks := .later }
def FnExactFormatCallUptoCardSaid : Prop := Claim7.holds Tryd.pinned (.plain (OpenSpec.upto fnExactFormatCallSpec)) fnExactFormatCallUptoCard

/-- THE SECOND FORM's CARD OF 'laws.FnExactFormatReply'. -/
def fnExactFormatReplyUptoCard : Claim7 := { stood := { row := fnExactFormatReplyUptoRow, standIns := [], harness := (true, "2eef0de22bfc974571e8865883a0fd6c84b41d58485be21194b501425f3fe2bf"), looks := true }, kinds := [], alts := [], laidByText := true, laidKinds := [.data, .data, .data, .data], laidTests := true, laidLooks := .later }
def FnExactFormatReplyUptoCardSaid : Prop := Claim7.holds Tryd.pinned (.plain (OpenSpec.upto fnExactFormatReplySpec)) fnExactFormatReplyUptoCard

/-- THE SECOND FORM's CARD OF 'laws.FnExactFormatCells'. -/
def fnExactFormatCellsUptoCard : Claim7 := { stood := { row := fnExactFormatCellsUptoRow, standIns := [], harness := (true, "2eef0de22bfc974571e8865883a0fd6c84b41d58485be21194b501425f3fe2bf"), looks := true }, kinds := [], alts := [], laidByText := true, laidKinds := [.data, .data, .data], laidTests := true, laidLooks := .later }
def FnExactFormatCellsUptoCardSaid : Prop := Claim7.holds Tryd.pinned (.plain (OpenSpec.upto fnExactFormatCellsSpec)) fnExactFormatCellsUptoCard

/-- THE SECOND FORM's CARD OF 'laws.FnExactParseNumber'. -/
def fnExactParseNumberUptoCard : Claim7 := { stood := { row := fnExactParseNumberUptoRow, standIns := [], harness := (true, "2eef0de22bfc974571e8865883a0fd6c84b41d58485be21194b501425f3fe2bf"), looks := true }, kinds := [], alts := [], laidByText := true, laidKinds := [.data, .data, .data, .sentinel, .sentinel], laidTests := true, laidLooks := .later }
def FnExactParseNumberUptoCardSaid : Prop := Claim7.holds Tryd.pinned (.plain (OpenSpec.upto fnExactParseNumberSpec)) fnExactParseNumberUptoCard

/-- THE SECOND FORM's CARD OF 'laws.FnNumbers'. -/
def fnNumbersUptoCard : Claim7 := { stood := { row := fnNumbersUptoRow, standIns := [], harness := (true, "2eef0de22bfc974571e8865883a0fd6c84b41d58485be21194b501425f3fe2bf"), looks := true }, kinds := [], alts := [], laidByText := true, laidKinds := [.data, .data, .data, .sentinel, .sentinel], laidTests := true, laidLooks := .later }
def FnNumbersUptoCardSaid : Prop := Claim7.holds Tryd.pinned (.plain (OpenSpec.upto fnNumbersSpec)) fnNumbersUptoCard
end Rows
end Go.Proofs.YtfmjcmhofjibmaaDoor
