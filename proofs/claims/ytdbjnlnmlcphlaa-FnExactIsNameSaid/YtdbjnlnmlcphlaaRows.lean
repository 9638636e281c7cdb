/-
  No cell of these rows narrows 'for every input' (looked for: loops, veiled, ifaces, maps, wideKeys, modest, calm, conditions, laid).
  DERIVED. THE GIVEN ROWS OF THIS SEAT. 4 by the template 'for every input the law returns true; each argument reads behind the call as it read before'; 0 by the template 'total and deterministic' (their statements: YtdbjnlnmlcphlaaTotals.lean).
  GIVEN WITH THE SEED: the statements are not yours to turn. If you find one false, say at which input.
  Laid BY PROGRAM, IN A SANDBOX (cutbox-rows.mjs): the forced cells as the released guide's own fill.sh prints them over the translation ade5792414a08674… (all of the seat's roots in one cut). By AI agents, Wed Nov 11 2026. No macro, syntax, notation, axiom, sorry.
-/
import Derived.Test.YtdbjnlnmlcphlaaChecked
import GoSem.Claim
import GoSem.ClaimJoined
import GoSem.ClaimMapViews
import Derived.JoinedTies
import Derived.KernelRfl
namespace Go.Proofs.Ytdbjnlnmlcphlaa
/- THE CELL 'sum', in the pinned program and in every row, IS THE sha256 OF THE DUMP (.gsa) THAT YtdbjnlnmlcphlaaProg.lean LOADS. Nothing in Lean hashes anything: it is a label: what it is worth is what the hold of that sum in a sandbox is worth. -/
noncomputable def Try.pinned : Pinned := { name := "ytdbjnlnmlcphlaa", sum := "ade5792414a08674d4c7c972b151fcefbc10b578eefd1f0477b07fe9a5d9c1f1", checked := Try.checked }
namespace Rows
def none {H : Type} : Left H := { results := [], args := [] }

/-- 'laws.FnExactConstants': WHATEVER THE INPUT: true; the input reads as it did. -/
def fnExactConstantsSpec : ChangeSpec := { name := "fnExactConstants", fn := fun _ => fun
  | [] => { results := [.lit (.bool true)], args := [] }
  | _ => none }
def fnExactConstantsRow : OpenClaim := { program := "ytdbjnlnmlcphlaa", sum := "ade5792414a08674d4c7c972b151fcefbc10b578eefd1f0477b07fe9a5d9c1f1", func := "loop.example/g03016/laws.FnExactConstants", spec := "fnExactConstants", apart := false }
def FnExactConstantsSaid : Prop := fnExactConstantsRow.holds Try.pinned (OpenSpec.ofChange fnExactConstantsSpec)

/-- ITS FALSE NEIGHBOUR: 'it returns false'. Refute it at one input. -/
def fnExactConstantsWrong : ChangeSpec := { name := "fnExactConstants", fn := fun _ => fun
  | [] => { results := [.lit (.bool false)], args := [] }
  | _ => none }
def FnExactConstantsWrongFalsely : Prop := fnExactConstantsRow.holds Try.pinned (OpenSpec.ofChange fnExactConstantsWrong)

/-- 'laws.FnExactIsFace': WHATEVER THE INPUT: true; the input reads as it did. -/
def fnExactIsFaceSpec : ChangeSpec := { name := "fnExactIsFace", fn := fun _ => fun
  | [d] => { results := [.lit (.bool true)], args := [d] }
  | _ => none }
def fnExactIsFaceRow : OpenClaim := { program := "ytdbjnlnmlcphlaa", sum := "ade5792414a08674d4c7c972b151fcefbc10b578eefd1f0477b07fe9a5d9c1f1", func := "loop.example/g03016/laws.FnExactIsFace", spec := "fnExactIsFace", apart := false }
def FnExactIsFaceSaid : Prop := fnExactIsFaceRow.holds Try.pinned (OpenSpec.ofChange fnExactIsFaceSpec)

/-- ITS FALSE NEIGHBOUR: 'it returns false'. Refute it at one input. -/
def fnExactIsFaceWrong : ChangeSpec := { name := "fnExactIsFace", fn := fun _ => fun
  | [d] => { results := [.lit (.bool false)], args := [d] }
  | _ => none }
def FnExactIsFaceWrongFalsely : Prop := fnExactIsFaceRow.holds Try.pinned (OpenSpec.ofChange fnExactIsFaceWrong)

/-- 'laws.FnExactOffers': WHATEVER THE INPUT: true; the input reads as it did. -/
def fnExactOffersSpec : ChangeSpec := { name := "fnExactOffers", fn := fun _ => fun
  | [d1, d2] => { results := [.lit (.bool true)], args := [d1, d2] }
  | _ => none }
def fnExactOffersRow : OpenClaim := { program := "ytdbjnlnmlcphlaa", sum := "ade5792414a08674d4c7c972b151fcefbc10b578eefd1f0477b07fe9a5d9c1f1", func := "loop.example/g03016/laws.FnExactOffers", spec := "fnExactOffers", apart := false }
def FnExactOffersSaid : Prop := fnExactOffersRow.holds Try.pinned (OpenSpec.ofChange fnExactOffersSpec)

/-- ITS FALSE NEIGHBOUR: 'it returns false'. Refute it at one input. -/
def fnExactOffersWrong : ChangeSpec := { name := "fnExactOffers", fn := fun _ => fun
  | [d1, d2] => { results := [.lit (.bool false)], args := [d1, d2] }
  | _ => none }
def FnExactOffersWrongFalsely : Prop := fnExactOffersRow.holds Try.pinned (OpenSpec.ofChange fnExactOffersWrong)

/-- 'laws.FnExactIsName': WHATEVER THE INPUT: true; the input reads as it did. -/
def fnExactIsNameSpec : ChangeSpec := { name := "fnExactIsName", fn := fun _ => fun
  | [d] => { results := [.lit (.bool true)], args := [d] }
  | _ => none }
def fnExactIsNameRow : OpenClaim := { program := "ytdbjnlnmlcphlaa", sum := "ade5792414a08674d4c7c972b151fcefbc10b578eefd1f0477b07fe9a5d9c1f1", func := "loop.example/g03016/laws.FnExactIsName", spec := "fnExactIsName", apart := false }
def FnExactIsNameSaid : Prop := fnExactIsNameRow.holds Try.pinned (OpenSpec.ofChange fnExactIsNameSpec)

/-- ITS FALSE NEIGHBOUR: 'it returns false'. Refute it at one input. -/
def fnExactIsNameWrong : ChangeSpec := { name := "fnExactIsName", fn := fun _ => fun
  | [d] => { results := [.lit (.bool false)], args := [d] }
  | _ => none }
def FnExactIsNameWrongFalsely : Prop := fnExactIsNameRow.holds Try.pinned (OpenSpec.ofChange fnExactIsNameWrong)

/- THE SECOND FORM. 'bulk': how many values and letters a reading holds, each counted each time it is reached (what is shared counts as often as it is met; a slice's spare places count too). A statement '..UptoSaid' is the law's where the arguments, and the package variables that the reading takes, are together of bulk at most 1048576: NARROWER than '..Said'. Prove '..Said' where nothing that the law and all that it calls make is longer than what came in: it says more and counts as full. Else prove '..UptoSaid'. A law counts once. -/
mutual
def uptoBulk {H : Type} : DataW H → Nat
  | .lit (.string bytes) => bytes.length + 1
  | .lit _ => 1
  | .nil => 1
  | .ptr d => uptoBulk d + 1
  | .slice elems spare => uptoBulkAll elems + uptoBulkAll spare + 1
  | .agg parts => uptoBulkAll parts + 1
  | .iface _ d => uptoBulk d + 1
  | .map entries => uptoBulkEntries entries + 1
  | .held _ => 1
def uptoBulkAll {H : Type} : List (DataW H) → Nat
  | [] => 0
  | d :: r => uptoBulk d + uptoBulkAll r
def uptoBulkEntries {H : Type} : List (Lit × DataW H) → Nat
  | [] => 0
  | x :: r => uptoBulkEntry x + uptoBulkEntries r
def uptoBulkEntry {H : Type} : Lit × DataW H → Nat
  | (.string bytes, d) => bytes.length + uptoBulk d + 1
  | (_, d) => uptoBulk d + 1
 end
def uptoSmall : (H : Type) → List (DataW H) → Bool := fun _ ds => decide (uptoBulkAll ds ≤ 1048576)
def OpenSpec.upto (s : _root_.Go.ChangeSpec) : _root_.Go.OpenSpec := { _root_.Go.OpenSpec.ofChange s with cond := some uptoSmall }

/-- 'laws.FnExactConstants', WHERE WHAT IT READS IS OF BULK AT MOST 1048576: true; the input reads as it did. -/
def fnExactConstantsUptoRow : OpenClaim := { program := "ytdbjnlnmlcphlaa", sum := "ade5792414a08674d4c7c972b151fcefbc10b578eefd1f0477b07fe9a5d9c1f1", func := "loop.example/g03016/laws.FnExactConstants", spec := "fnExactConstants", apart := false, narrowed := true }
def FnExactConstantsUptoSaid : Prop := fnExactConstantsUptoRow.holds Try.pinned (OpenSpec.upto fnExactConstantsSpec)

/-- 'laws.FnExactIsFace', WHERE WHAT IT READS IS OF BULK AT MOST 1048576: true; the input reads as it did. -/
def fnExactIsFaceUptoRow : OpenClaim := { program := "ytdbjnlnmlcphlaa", sum := "ade5792414a08674d4c7c972b151fcefbc10b578eefd1f0477b07fe9a5d9c1f1", func := "loop.example/g03016/laws.FnExactIsFace", spec := "fnExactIsFace", apart := false, narrowed := true }
def FnExactIsFaceUptoSaid : Prop := fnExactIsFaceUptoRow.holds Try.pinned (OpenSpec.upto fnExactIsFaceSpec)

/-- 'laws.FnExactOffers', WHERE WHAT IT READS IS OF BULK AT MOST 1048576: true; the input reads as it did. -/
def fnExactOffersUptoRow : OpenClaim := { program := "ytdbjnlnmlcphlaa", sum := "ade5792414a08674d4c7c972b151fcefbc10b578eefd1f0477b07fe9a5d9c1f1", func := "loop.example/g03016/laws.FnExactOffers", spec := "fnExactOffers", apart := false, narrowed := true }
def FnExactOffersUptoSaid : Prop := fnExactOffersUptoRow.holds Try.pinned (OpenSpec.upto fnExactOffersSpec)

/-- 'laws.FnExactIsName', WHERE WHAT IT READS IS OF BULK AT MOST 1048576: true; the input reads as it did. -/
def fnExactIsNameUptoRow : OpenClaim := { program := "ytdbjnlnmlcphlaa", sum := "ade5792414a08674d4c7c972b151fcefbc10b578eefd1f0477b07fe9a5d9c1f1", func := "loop.example/g03016/laws.FnExactIsName", spec := "fnExactIsName", apart := false, narrowed := true }
def FnExactIsNameUptoSaid : Prop := fnExactIsNameUptoRow.holds Try.pinned (OpenSpec.upto fnExactIsNameSpec)

end Rows
end Go.Proofs.Ytdbjnlnmlcphlaa
