/-
  DERIVED. GIVEN WITH THE SEED: THE CARDS: each row of YtllmcnmongaahaaGreatDoorRows.lean that lists a variable, with what it lists TIED to the program's text (the seventh form; the later family's looks); each row that meets fmt, with fmt's text TOLD by the authors' own Lean function (tested against real Go, not proved from fmt's source: count such statements apart). THE CARD IS WHAT COUNTS. Prove the row's statement (the work); the ties are given (YtllmcnmongaahaaGreatDoorTie.lean); close each card by the builder's one call (the guide's Derived/Test/ToyasCard.lean, 'card_holds'). Laid BY PROGRAM, IN A SANDBOX (cutbox-door.mjs). By AI agents, Wed Nov 11 2026. No macro, syntax, notation, axiom, sorry.
-/
import Derived.Test.YtllmcnmongaahaaGreatDoorRows
import GoSem.ClaimSeven
namespace Go.Proofs.YtllmcnmongaahaaGreatDoor
namespace Rows

/-- THE TIED CARD OF 'laws.FnExactCallCore'. -/
def fnExactCallCoreCard : Claim7 := { stood := { row := fnExactCallCoreRow, standIns := [], harness := (true, "15f444c23c93b2403839749698f01a757c47729f86feb889b0929fa11f9b21ff"), looks := true }, kinds := [], alts := [], laidByText := true, laidKinds := [.data, .data, .data, .data, .sentinel, .sentinel, .pinned], laidTests := true, laidLooks := .later }
def FnExactCallCoreCardSaid : Prop := Claim7.holds Tryz.pinned (.plain (OpenSpec.ofChange fnExactCallCoreSpec)) fnExactCallCoreCard

/-- THE TIED CARD OF 'laws.FnExactCallCores'. -/
def fnExactCallCoresCard : Claim7 := { stood := { row := fnExactCallCoresRow, standIns := [], harness := (true, "15f444c23c93b2403839749698f01a757c47729f86feb889b0929fa11f9b21ff"), looks := true }, kinds := [], alts := [], laidByText := true, laidKinds := [.data, .data, .data, .data, .sentinel, .sentinel, .pinned], laidTests := true, laidLooks := .later }
def FnExactCallCoresCardSaid : Prop := Claim7.holds Tryz.pinned (.plain (OpenSpec.ofChange fnExactCallCoresSpec)) fnExactCallCoresCard

/-- THE TIED CARD OF 'laws.FnCallText'. -/
def fnCallTextCard : Claim7 := { stood := { row := fnCallTextRow, standIns := [], harness := (true, "15f444c23c93b2403839749698f01a757c47729f86feb889b0929fa11f9b21ff"), looks := true }, kinds := [], alts := [], laidByText := true, laidKinds := [.data, .data, .data, .data, .sentinel, .sentinel, .pinned], laidTests := true, laidLooks := .later }
def FnCallTextCardSaid : Prop := Claim7.holds Tryz.pinned (.plain (OpenSpec.ofChange fnCallTextSpec)) fnCallTextCard

/-- THE TIED CARD OF 'laws.FnPutGet'. -/
def fnPutGetCard : Claim7 := { stood := { row := fnPutGetRow, standIns := [], harness := (true, "15f444c23c93b2403839749698f01a757c47729f86feb889b0929fa11f9b21ff"), looks := true }, kinds := [], alts := [], laidByText := true, laidKinds := [.data, .data, .data, .data, .sentinel, .sentinel, .pinned], laidTests := true, laidLooks := .later }
def FnPutGetCardSaid : Prop := Claim7.holds Tryz.pinned (.plain (OpenSpec.ofChange fnPutGetSpec)) fnPutGetCard

/-- THE TIED CARD OF 'laws.FnCallWants'. -/
def fnCallWantsCard : Claim7 := { stood := { row := fnCallWantsRow, standIns := [], harness := (true, "15f444c23c93b2403839749698f01a757c47729f86feb889b0929fa11f9b21ff"), looks := true }, kinds := [], alts := [], laidByText := true, laidKinds := [.data, .data, .data, .data, .sentinel, .sentinel, .pinned], laidTests := true, laidLooks := .later }
def FnCallWantsCardSaid : Prop := Claim7.holds Tryz.pinned (.plain (OpenSpec.ofChange fnCallWantsSpec)) fnCallWantsCard

/-- THE TIED CARD OF 'laws.FnBreaks'. -/
def fnBreaksCard : Claim7 := { stood := { row := fnBreaksRow, standIns := [], harness := (true, "15f444c23c93b2403839749698f01a757c47729f86feb889b0929fa11f9b21ff"), looks := true }, kinds := [], alts := [], laidByText := true, laidKinds := [.data, .data, .data, .data, .sentinel, .sentinel, .pinned], laidTests := true, laidLooks := .later }
def FnBreaksCardSaid : Prop := Claim7.holds Tryz.pinned (.plain (OpenSpec.ofChange fnBreaksSpec)) fnBreaksCard

/-- THE TIED CARD OF 'laws.FnCoreKeeps'. -/
def fnCoreKeepsCard : Claim7 := { stood := { row := fnCoreKeepsRow, standIns := [], harness := (true, "15f444c23c93b2403839749698f01a757c47729f86feb889b0929fa11f9b21ff"), looks := true }, kinds := [], alts := [], laidByText := true, laidKinds := [.data, .data, .data, .data, .sentinel, .sentinel, .pinned], laidTests := true, laidLooks := .later }
def FnCoreKeepsCardSaid : Prop := Claim7.holds Tryz.pinned (.plain (OpenSpec.ofChange fnCoreKeepsSpec)) fnCoreKeepsCard

/-- THE TIED CARD OF 'laws.FnSaveLoad'. -/
def fnSaveLoadCard : Claim7 := { stood := { row := fnSaveLoadRow, standIns := [], harness := (true, "15f444c23c93b2403839749698f01a757c47729f86feb889b0929fa11f9b21ff"), looks := true }, kinds := [], alts := [], laidByText := true, laidKinds := [.data, .data, .data, .data, .sentinel, .sentinel, .pinned], laidTests := true, laidLooks := .later }
def FnSaveLoadCardSaid : Prop := Claim7.holds Tryz.pinned (.plain (OpenSpec.ofChange fnSaveLoadSpec)) fnSaveLoadCard

/-- THE SECOND FORM's CARD OF 'laws.FnExactCallCore'. -/
def fnExactCallCoreUptoCard : Claim7 := { stood := { row := fnExactCallCoreUptoRow, standIns := [], harness := (true, "15f444c23c93b2403839749698f01a757c47729f86feb889b0929fa11f9b21ff"), looks := true }, kinds := [], alts := [], laidByText := true, laidKinds := [.data, .data, .data, .data, .sentinel, .sentinel, .pinned], laidTests := true, laidLooks := .later }
def FnExactCallCoreUptoCardSaid : Prop := Claim7.holds Tryz.pinned (.plain (OpenSpec.upto fnExactCallCoreSpec)) fnExactCallCoreUptoCard

/-- THE SECOND FORM's CARD OF 'laws.FnExactCallCores'. -/
def fnExactCallCoresUptoCard : Claim7 := { stood := { row := fnExactCallCoresUptoRow, standIns := [], harness := (true, "15f444c23c93b2403839749698f01a757c47729f86feb889b0929fa11f9b21ff"), looks := true }, kinds := [], alts := [], laidByText := true, laidKinds := [.data, .data, .data, .data, .sentinel, .sentinel, .pinned], laidTests := true, laidLooks := .later }
def FnExactCallCoresUptoCardSaid : Prop := Claim7.holds Tryz.pinned (.plain (OpenSpec.upto fnExactCallCoresSpec)) fnExactCallCoresUptoCard

/-- THE SECOND FORM's CARD OF 'laws.FnCallText'. -/
def fnCallTextUptoCard : Claim7 := { stood := { row := fnCallTextUptoRow, standIns := [], harness := (true, "15f444c23c93b2403839749698f01a757c47729f86feb889b0929fa11f9b21ff"), looks := true }, kinds := [], alts := [], laidByText := true, laidKinds := [.data, .data, .data, .data, .sentinel, .sentinel, .pinned], laidTests := true, laidLooks := .later }
def FnCallTextUptoCardSaid : Prop := Claim7.holds Tryz.pinned (.plain (OpenSpec.upto fnCallTextSpec)) fnCallTextUptoCard

/-- THE SECOND FORM's CARD OF 'laws.FnPutGet'. -/
def fnPutGetUptoCard : Claim7 := { stood := { row := fnPutGetUptoRow, standIns := [], harness := (true, "15f444c23c93b2403839749698f01a757c47729f86feb889b0929fa11f9b21ff"), looks := true }, kinds := [], alts := [], laidByText := true, laidKinds := [.data, .data, .data, .data, .sentinel, .sentinel, .pinned], laidTests := true, laidLooks := .later }
def FnPutGetUptoCardSaid : Prop := Claim7.holds Tryz.pinned (.plain (OpenSpec.upto fnPutGetSpec)) fnPutGetUptoCard

/-- THE SECOND FORM's CARD OF 'laws.FnCallWants'. -/
def fnCallWantsUptoCard : Claim7 := { stood := { row := fnCallWantsUptoRow, standIns := [], harness := (true, "15f444c23c93b2403839749698f01a757c47729f86feb889b0929fa11f9b21ff"), looks := true }, kinds := [], alts := [], laidByText := true, laidKinds := [.data, .data, .data, .data, .sentinel, .sentinel, .pinned], laidTests := true, laidLooks := .later }
def FnCallWantsUptoCardSaid : Prop := Claim7.holds Tryz.pinned (.plain (OpenSpec.upto fnCallWantsSpec)) fnCallWantsUptoCard

/-- THE SECOND FORM's CARD OF 'laws.FnBreaks'. -/
def fnBreaksUptoCard : Claim7 := { stood := { row := fnBreaksUptoRow, standIns := [], harness := (true, "15f444c23c93b2403839749698f01a757c47729f86feb889b0929fa11f9b21ff"), looks := true }, kinds := [], alts := [], laidByText := true, laidKinds := [.data, .data, .data, .data, .sentinel, .sentinel, .pinned], laidTests := true, laidLooks := .later }
def FnBreaksUptoCardSaid : Prop := Claim7.holds Tryz.pinned (.plain (OpenSpec.upto fnBreaksSpec)) fnBreaksUptoCard

/-- THE SECOND FORM's CARD OF 'laws.FnCoreKeeps'. -/
def fnCoreKeepsUptoCard : Claim7 := { stood := { row := fnCoreKeepsUptoRow, standIns := [], harness := (true, "15f444c23c93b2403839749698f01a757c47729f86feb889b0929fa11f9b21ff"), looks := true }, kinds := [], alts := [], laidByText := true, laidKinds := [.data, .data, .data, .data, .sentinel, .sentinel, .pinned], laidTests := true, laidLooks := .later }
def FnCoreKeepsUptoCardSaid : Prop := Claim7.holds Tryz.pinned (.plain (OpenSpec.upto fnCoreKeepsSpec)) fnCoreKeepsUptoCard

/-- THE SECOND FORM's CARD OF 'laws.FnSaveLoad'. -/
def fnSaveLoadUptoCard : Claim7 := { stood := { row := fnSaveLoadUptoRow, standIns := [], harness := (true, "15f444c23c93b2403839749698f01a757c47729f86feb889b0929fa11f9b21ff"), looks := true }, kinds := [], alts := [], laidByText := true, laidKinds := [.data, .data, .data, .data, .sentinel, .sentinel, .pinned], laidTests := true, laidLooks := .later }
def FnSaveLoadUptoCardSaid : Prop := Claim7.holds Tryz.pinned (.plain (OpenSpec.upto fnSaveLoadSpec)) fnSaveLoadUptoCard
end Rows
end Go.Proofs.YtllmcnmongaahaaGreatDoor
