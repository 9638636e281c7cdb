/-
  DERIVED. GIVEN WITH THE SEED: THE CARDS: each row of YtabbgabdbkbjcaaDoorRows.lean that lists a variable, with what it lists TIED to the program's text (the seventh form; the later family's looks); each row that meets fmt, with fmt's text TOLD by the authors' own Lean function (tested against real Go, not proved from fmt's source: count such statements apart). THE CARD IS WHAT COUNTS. Prove the row's statement (the work); the ties are given (YtabbgabdbkbjcaaDoorTie.lean); close each card by the builder's one call (the guide's Derived/Test/ToyasCard.lean, 'card_holds'). Laid BY PROGRAM, IN A SANDBOX (cutbox-door.mjs). By AI agents, Wed Nov 11 2026. No macro, syntax, notation, axiom, sorry.
-/
import Derived.Test.YtabbgabdbkbjcaaDoorRows
import GoSem.ClaimSeven
namespace Go.Proofs.YtabbgabdbkbjcaaDoor
namespace Rows

/-- THE TIED CARD OF 'laws.FnExactSplitAt'. -/
def fnExactSplitAtCard : Claim7 := { stood := { row := fnExactSplitAtRow, standIns := [], harness := (true, "cd703c012e5456b0e2c4be6653215308e6b561ea59fb1b562905c5074e047c31"), looks := true }, kinds := [], alts := [], laidByText := true, laidKinds := [.data, .pinned], laidTests := true, laidLooks := .later }
def FnExactSplitAtCardSaid : Prop := Claim7.holds Tryd.pinned (.plain (OpenSpec.ofChange fnExactSplitAtSpec)) fnExactSplitAtCard

/-- THE TIED CARD OF 'laws.FnSplits'. -/
def fnSplitsCard : Claim7 := { stood := { row := fnSplitsRow, standIns := [], harness := (true, "cd703c012e5456b0e2c4be6653215308e6b561ea59fb1b562905c5074e047c31"), looks := true }, kinds := [], alts := [], laidByText := true, laidKinds := [.data, .pinned], laidTests := true, laidLooks := .later }
def FnSplitsCardSaid : Prop := Claim7.holds Tryd.pinned (.plain (OpenSpec.ofChange fnSplitsSpec)) fnSplitsCard

/-- THE TIED CARD OF 'laws.FnExactParseCall'. -/
def fnExactParseCallCard : Claim7 := { stood := { row := fnExactParseCallRow, standIns := [], harness := (true, "cd703c012e5456b0e2c4be6653215308e6b561ea59fb1b562905c5074e047c31"), looks := true }, kinds := [], alts := [], laidByText := true, laidKinds := [.data, .data, .data, .sentinel, .sentinel], laidTests := true, laidLooks := .later }
def FnExactParseCallCardSaid : Prop := Claim7.holds Tryd.pinned (.plain (OpenSpec.ofChange fnExactParseCallSpec)) fnExactParseCallCard

/-- THE TIED CARD OF 'laws.FnExactParseCells'. -/
def fnExactParseCellsCard : Claim7 := { stood := { row := fnExactParseCellsRow, standIns := [], harness := (true, "cd703c012e5456b0e2c4be6653215308e6b561ea59fb1b562905c5074e047c31"), looks := true }, kinds := [], alts := [], laidByText := true, laidKinds := [.data, .data, .data, .data, .sentinel, .sentinel, .pinned], laidTests := true, laidLooks := .later }
def FnExactParseCellsCardSaid : Prop := Claim7.holds Tryd.pinned (.plain (OpenSpec.ofChange fnExactParseCellsSpec)) fnExactParseCellsCard

/-- THE SECOND FORM's CARD OF 'laws.FnExactSplitAt'. -/
def fnExactSplitAtUptoCard : Claim7 := { stood := { row := fnExactSplitAtUptoRow, standIns := [], harness := (true, "cd703c012e5456b0e2c4be6653215308e6b561ea59fb1b562905c5074e047c31"), looks := true }, kinds := [], alts := [], laidByText := true, laidKinds := [.data, .pinned], laidTests := true, laidLooks := .later }
def FnExactSplitAtUptoCardSaid : Prop := Claim7.holds Tryd.pinned (.plain (OpenSpec.upto fnExactSplitAtSpec)) fnExactSplitAtUptoCard

/-- THE SECOND FORM's CARD OF 'laws.FnSplits'. -/
def fnSplitsUptoCard : Claim7 := { stood := { row := fnSplitsUptoRow, standIns := [], harness := (true, "cd703c012e5456b0e2c4be6653215308e6b561ea59fb1b562905c5074e047c31"), looks := true }, kinds := [], alts := [], laidByText := true, laidKinds := [.data, .pinned], laidTests := true, laidLooks := .later }
def FnSplitsUptoCardSaid : Prop := Claim7.holds Tryd.pinned (.plain (OpenSpec.upto fnSplitsSpec)) fnSplitsUptoCard

/-- THE SECOND FORM's CARD OF 'laws.FnExactParseCall'. -/
def fnExactParseCallUptoCard : Claim7 := { stood := { row := fnExactParseCallUptoRow, standIns := [], harness := (true, "cd703c012e5456b0e2c4be6653215308e6b561ea59fb1b562905c5074e047c31"), looks := true }, kinds := [], alts := [], laidByText := true, laidKinds := [.data, .data, .data, .sentinel, .sentinel], laidTests := true, laidLooks := .later }
def FnExactParseCallUptoCardSaid : Prop := Claim7.holds Tryd.pinned (.plain (OpenSpec.upto fnExactParseCallSpec)) fnExactParseCallUptoCard

/-- THE SECOND FORM's CARD OF 'laws.FnExactParseCells'. -/
def fnExactParseCellsUptoCard : Claim7 := { stood := { row := fnExactParseCellsUptoRow, standIns := [], harness := (true, "cd703c012e5456b0e2c4be6653215308e6b561ea59fb1b562905c5074e047c31"), looks := true }, kinds := [], alts := [], laidByText := true, laidKinds := [.data, .data, .data, .data, .sentinel, .sentinel, .pinned], laidTests := true, laidLooks := .later }
def FnExactParseCellsUptoCardSaid : Prop := Claim7.holds Tryd.pinned (.plain (OpenSpec.upto fnExactParseCellsSpec)) fnExactParseCellsUptoCard
end Rows
end Go.Proofs.YtabbgabdbkbjcaaDoor
