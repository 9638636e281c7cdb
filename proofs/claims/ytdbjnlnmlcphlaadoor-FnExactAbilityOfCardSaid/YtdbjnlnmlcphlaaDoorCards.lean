/-
  DERIVED. GIVEN WITH THE SEED: THE CARDS: each row of YtdbjnlnmlcphlaaDoorRows.lean that lists a variable, with what it lists TIED to the program's text (the seventh form; the later family's looks); each row that meets fmt, with fmt's text TOLD by the authors' own Lean function (tested against real Go, not proved from fmt's source: count such statements apart). THE CARD IS WHAT COUNTS. Prove the row's statement (the work); the ties are given (YtdbjnlnmlcphlaaDoorTie.lean); close each card by the builder's one call (the guide's Derived/Test/ToyasCard.lean, 'card_holds'). Laid BY PROGRAM, IN A SANDBOX (cutbox-door.mjs). By AI agents, Wed Nov 11 2026. No macro, syntax, notation, axiom, sorry.
-/
import Derived.Test.YtdbjnlnmlcphlaaDoorRows
import GoSem.ClaimSeven
namespace Go.Proofs.YtdbjnlnmlcphlaaDoor
namespace Rows

/-- THE TIED CARD OF 'laws.FnExactAbilityName'. -/
def fnExactAbilityNameCard : Claim7 := { stood := { row := fnExactAbilityNameRow, standIns := [], harness := (true, "f2f4ba60a0b7f7738c5db04167e0975d5d7702a9cc4b28664ac38133f839a3b9"), looks := false }, kinds := [], alts := [], laidByText := true, laidKinds := [.data], laidTests := true, laidLooks := .later }
def FnExactAbilityNameCardSaid : Prop := Claim7.holds Tryd.pinned (.plain (OpenSpec.ofChange fnExactAbilityNameSpec)) fnExactAbilityNameCard

/-- THE TIED CARD OF 'laws.FnExactAbilityOf'. -/
def fnExactAbilityOfCard : Claim7 := { stood := { row := fnExactAbilityOfRow, standIns := [], harness := (true, "f2f4ba60a0b7f7738c5db04167e0975d5d7702a9cc4b28664ac38133f839a3b9"), looks := false }, kinds := [], alts := [], laidByText := true, laidKinds := [.data], laidTests := true, laidLooks := .later }
def FnExactAbilityOfCardSaid : Prop := Claim7.holds Tryd.pinned (.plain (OpenSpec.ofChange fnExactAbilityOfSpec)) fnExactAbilityOfCard

/-- THE SECOND FORM's CARD OF 'laws.FnExactAbilityName'. -/
def fnExactAbilityNameUptoCard : Claim7 := { stood := { row := fnExactAbilityNameUptoRow, standIns := [], harness := (true, "f2f4ba60a0b7f7738c5db04167e0975d5d7702a9cc4b28664ac38133f839a3b9"), looks := false }, kinds := [], alts := [], laidByText := true, laidKinds := [.data], laidTests := true, laidLooks := .later }
def FnExactAbilityNameUptoCardSaid : Prop := Claim7.holds Tryd.pinned (.plain (OpenSpec.upto fnExactAbilityNameSpec)) fnExactAbilityNameUptoCard

/-- THE SECOND FORM's CARD OF 'laws.FnExactAbilityOf'. -/
def fnExactAbilityOfUptoCard : Claim7 := { stood := { row := fnExactAbilityOfUptoRow, standIns := [], harness := (true, "f2f4ba60a0b7f7738c5db04167e0975d5d7702a9cc4b28664ac38133f839a3b9"), looks := false }, kinds := [], alts := [], laidByText := true, laidKinds := [.data], laidTests := true, laidLooks := .later }
def FnExactAbilityOfUptoCardSaid : Prop := Claim7.holds Tryd.pinned (.plain (OpenSpec.upto fnExactAbilityOfSpec)) fnExactAbilityOfUptoCard
end Rows
end Go.Proofs.YtdbjnlnmlcphlaaDoor
