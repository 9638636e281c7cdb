/-
  DERIVED. GIVEN WITH THE SEED: THE CARDS: each row of YtlclealkbmlahaaDoorRows.lean that lists a variable, with what it lists TIED to the program's text (the seventh form; the later family's looks); each row that meets fmt, with fmt's text TOLD by the authors' own Lean function (tested against real Go, not proved from fmt's source: count such statements apart). THE CARD IS WHAT COUNTS. Prove the row's statement (the work); the ties are given (YtlclealkbmlahaaDoorTie.lean); close each card by the builder's one call (the guide's Derived/Test/ToyasCard.lean, 'card_holds'). Laid BY PROGRAM, IN A SANDBOX (cutbox-door.mjs). By AI agents, Wed Nov 11 2026. No macro, syntax, notation, axiom, sorry.
-/
import Derived.Test.YtlclealkbmlahaaDoorRows
import GoSem.ClaimSeven
namespace Go.Proofs.YtlclealkbmlahaaDoor
namespace Rows

/-- THE TIED CARD OF 'laws.FnExactFormatFace'. -/
def fnExactFormatFaceCard : Claim7 := { stood := { row := fnExactFormatFaceRow, standIns := [], harness := (true, "1cbc580949be927bf3cca0dbd6e805d5fd7103f4bccce32e43867e5be140ea78"), looks := false }, kinds := [], alts := [], laidByText := true, laidKinds := [.data], laidTests := true, laidLooks := .later }
def FnExactFormatFaceCardSaid : Prop := Claim7.holds Tryd.pinned (.plain (OpenSpec.ofChange fnExactFormatFaceSpec)) fnExactFormatFaceCard

/-- THE TIED CARD OF 'laws.FnExactParseFace'. -/
def fnExactParseFaceCard : Claim7 := { stood := { row := fnExactParseFaceRow, standIns := [], harness := (true, "1cbc580949be927bf3cca0dbd6e805d5fd7103f4bccce32e43867e5be140ea78"), looks := false }, kinds := [], alts := [], laidByText := true, laidKinds := [.data], laidTests := true, laidLooks := .later }
def FnExactParseFaceCardSaid : Prop := Claim7.holds Tryd.pinned (.plain (OpenSpec.ofChange fnExactParseFaceSpec)) fnExactParseFaceCard

/-- THE TIED CARD OF 'laws.FnFaceText'. -/
def fnFaceTextCard : Claim7 := { stood := { row := fnFaceTextRow, standIns := [], harness := (true, "1cbc580949be927bf3cca0dbd6e805d5fd7103f4bccce32e43867e5be140ea78"), looks := false }, kinds := [], alts := [], laidByText := true, laidKinds := [.data], laidTests := true, laidLooks := .later }
def FnFaceTextCardSaid : Prop := Claim7.holds Tryd.pinned (.plain (OpenSpec.ofChange fnFaceTextSpec)) fnFaceTextCard

/-- THE SECOND FORM's CARD OF 'laws.FnExactFormatFace'. -/
def fnExactFormatFaceUptoCard : Claim7 := { stood := { row := fnExactFormatFaceUptoRow, standIns := [], harness := (true, "1cbc580949be927bf3cca0dbd6e805d5fd7103f4bccce32e43867e5be140ea78"), looks := false }, kinds := [], alts := [], laidByText := true, laidKinds := [.data], laidTests := true, laidLooks := .later }
def FnExactFormatFaceUptoCardSaid : Prop := Claim7.holds Tryd.pinned (.plain (OpenSpec.upto fnExactFormatFaceSpec)) fnExactFormatFaceUptoCard

/-- THE SECOND FORM's CARD OF 'laws.FnExactParseFace'. -/
def fnExactParseFaceUptoCard : Claim7 := { stood := { row := fnExactParseFaceUptoRow, standIns := [], harness := (true, "1cbc580949be927bf3cca0dbd6e805d5fd7103f4bccce32e43867e5be140ea78"), looks := false }, kinds := [], alts := [], laidByText := true, laidKinds := [.data], laidTests := true, laidLooks := .later }
def FnExactParseFaceUptoCardSaid : Prop := Claim7.holds Tryd.pinned (.plain (OpenSpec.upto fnExactParseFaceSpec)) fnExactParseFaceUptoCard

/-- THE SECOND FORM's CARD OF 'laws.FnFaceText'. -/
def fnFaceTextUptoCard : Claim7 := { stood := { row := fnFaceTextUptoRow, standIns := [], harness := (true, "1cbc580949be927bf3cca0dbd6e805d5fd7103f4bccce32e43867e5be140ea78"), looks := false }, kinds := [], alts := [], laidByText := true, laidKinds := [.data], laidTests := true, laidLooks := .later }
def FnFaceTextUptoCardSaid : Prop := Claim7.holds Tryd.pinned (.plain (OpenSpec.upto fnFaceTextSpec)) fnFaceTextUptoCard
end Rows
end Go.Proofs.YtlclealkbmlahaaDoor
