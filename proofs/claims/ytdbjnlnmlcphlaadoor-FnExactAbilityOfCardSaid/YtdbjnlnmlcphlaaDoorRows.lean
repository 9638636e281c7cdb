/-
  NARROWER THAN 'FOR EVERY INPUT', by the rows' own cells (each row's printed sentence says how): FnExactAbilityName: laid · FnExactAbilityOf: laid.
  DERIVED. THE GIVEN ROWS OF THIS SEAT. 2 by the template 'for every input the law returns true; each argument reads behind the call as it read before'; 0 by the template 'total and deterministic' (their statements: YtdbjnlnmlcphlaaDoorTotals.lean).
  GIVEN WITH THE SEED: the statements are not yours to turn. If you find one false, say at which input.
  Laid BY PROGRAM, IN A SANDBOX (cutbox-rows.mjs): the forced cells as the released guide's own fill.sh prints them over the translation 47ec235942ece692… (all of the seat's roots in one cut). By AI agents, Wed Nov 11 2026. No macro, syntax, notation, axiom, sorry.
-/
import Derived.Test.YtdbjnlnmlcphlaaDoorChecked
import GoSem.Claim
import GoSem.ClaimJoined
import GoSem.ClaimMapViews
import Derived.JoinedTies
import Derived.KernelRfl
namespace Go.Proofs.YtdbjnlnmlcphlaaDoor
/- THE CELL 'sum', in the pinned program and in every row, IS THE sha256 OF THE DUMP (.gsa) THAT YtdbjnlnmlcphlaaDoorProg.lean LOADS. Nothing in Lean hashes anything: it is a label: what it is worth is what the hold of that sum in a sandbox is worth. -/
noncomputable def Tryd.pinned : Pinned := { name := "ytdbjnlnmlcphlaadoor", sum := "47ec235942ece692105a100c14408b84d4ec25e0d7feeb0ea26eba588d703342", checked := Tryd.checked }
namespace Rows
def none {H : Type} : Left H := { results := [], args := [] }

/- WHAT THE LISTED PACKAGE-LEVEL VARIABLES READ AS WHEN THE CALL BEGINS. Each datum BY PROGRAM (the guide's laid-datum.mjs) off the statement by which the dump's own 'gosem.cut.vars' lays the variable. In a bare row this is a premise. The card (YtdbjnlnmlcphlaaDoorCards.lean) ties it to the program's text. -/
def laid_loop_example_g03016_impl_abilityNames {H : Type} : DataW H := .agg [.lit (.string [114, 117, 110]), .lit (.string [107, 101, 101, 112]), .lit (.string [116, 101, 108, 108]), .lit (.string [104, 101, 97, 114]), .lit (.string [115, 97, 118, 101]), .lit (.string [104, 101, 97, 108])]

/-- 'laws.FnExactAbilityName': WHATEVER THE INPUT: true; the input reads as it did. -/
def fnExactAbilityNameSpec : ChangeSpec := { name := "fnExactAbilityName", vars := ["loop.example/g03016/impl.abilityNames"], fn := fun _ => fun
  | [d, g1] => { results := [.lit (.bool true)], args := [d], vars := [g1] }
  | _ => none }
def fnExactAbilityNameRow : OpenClaim := { program := "ytdbjnlnmlcphlaadoor", sum := "47ec235942ece692105a100c14408b84d4ec25e0d7feeb0ea26eba588d703342", func := "loop.example/g03016/laws.FnExactAbilityName", spec := "fnExactAbilityName", named := ["loop.example/g03016/impl.abilityNames"], apart := false, laid := [("loop.example/g03016/impl.abilityNames", laid_loop_example_g03016_impl_abilityNames)] }
def FnExactAbilityNameSaid : Prop := fnExactAbilityNameRow.holds Tryd.pinned (OpenSpec.ofChange fnExactAbilityNameSpec)

/-- ITS FALSE NEIGHBOUR: 'it returns false'. Refute it at one input. -/
def fnExactAbilityNameWrong : ChangeSpec := { name := "fnExactAbilityName", vars := ["loop.example/g03016/impl.abilityNames"], fn := fun _ => fun
  | [d, g1] => { results := [.lit (.bool false)], args := [d], vars := [g1] }
  | _ => none }
def FnExactAbilityNameWrongFalsely : Prop := fnExactAbilityNameRow.holds Tryd.pinned (OpenSpec.ofChange fnExactAbilityNameWrong)

/-- 'laws.FnExactAbilityOf': WHATEVER THE INPUT: true; the input reads as it did. -/
def fnExactAbilityOfSpec : ChangeSpec := { name := "fnExactAbilityOf", vars := ["loop.example/g03016/impl.abilityNames"], fn := fun _ => fun
  | [d, g1] => { results := [.lit (.bool true)], args := [d], vars := [g1] }
  | _ => none }
def fnExactAbilityOfRow : OpenClaim := { program := "ytdbjnlnmlcphlaadoor", sum := "47ec235942ece692105a100c14408b84d4ec25e0d7feeb0ea26eba588d703342", func := "loop.example/g03016/laws.FnExactAbilityOf", spec := "fnExactAbilityOf", named := ["loop.example/g03016/impl.abilityNames"], apart := false, laid := [("loop.example/g03016/impl.abilityNames", laid_loop_example_g03016_impl_abilityNames)] }
def FnExactAbilityOfSaid : Prop := fnExactAbilityOfRow.holds Tryd.pinned (OpenSpec.ofChange fnExactAbilityOfSpec)

/-- ITS FALSE NEIGHBOUR: 'it returns false'. Refute it at one input. -/
def fnExactAbilityOfWrong : ChangeSpec := { name := "fnExactAbilityOf", vars := ["loop.example/g03016/impl.abilityNames"], fn := fun _ => fun
  | [d, g1] => { results := [.lit (.bool false)], args := [d], vars := [g1] }
  | _ => none }
def FnExactAbilityOfWrongFalsely : Prop := fnExactAbilityOfRow.holds Tryd.pinned (OpenSpec.ofChange fnExactAbilityOfWrong)

/- THE SECOND FORM. 'bulk': how many values and letters a reading holds, each counted each time it is reached (what is shared counts as often as it is met; a slice's spare places count too). A statement '..UptoSaid' is the law's where the arguments, and the package variables that the reading takes, are together of bulk at most 1048576: NARROWER than '..Said'. Prove '..Said' where nothing that the law and all that it calls make is longer than what came in: it says more and counts as full. Else prove '..UptoSaid'. A law counts once. -/
mutual
def uptoBulk {H : Type} : DataW H → Nat
  | .lit (.string bytes) => bytes.length + 1
  | .lit _ => 1
  | .nil => 1
  | .ptr d => uptoBulk d + 1
  | .slice elems spare => uptoBulkAll elems + uptoBulkAll spare + 1
  | .agg parts => uptoBulkAll parts + 1
  | .iface _ d => uptoBulk d + 1
  | .map entries => uptoBulkEntries entries + 1
  | .held _ => 1
def uptoBulkAll {H : Type} : List (DataW H) → Nat
  | [] => 0
  | d :: r => uptoBulk d + uptoBulkAll r
def uptoBulkEntries {H : Type} : List (Lit × DataW H) → Nat
  | [] => 0
  | x :: r => uptoBulkEntry x + uptoBulkEntries r
def uptoBulkEntry {H : Type} : Lit × DataW H → Nat
  | (.string bytes, d) => bytes.length + uptoBulk d + 1
  | (_, d) => uptoBulk d + 1
 end
def uptoSmall : (H : Type) → List (DataW H) → Bool := fun _ ds => decide (uptoBulkAll ds ≤ 1048576)
def OpenSpec.upto (s : _root_.Go.ChangeSpec) : _root_.Go.OpenSpec := { _root_.Go.OpenSpec.ofChange s with cond := some uptoSmall }

/-- 'laws.FnExactAbilityName', WHERE WHAT IT READS IS OF BULK AT MOST 1048576: true; the input reads as it did. -/
def fnExactAbilityNameUptoRow : OpenClaim := { program := "ytdbjnlnmlcphlaadoor", sum := "47ec235942ece692105a100c14408b84d4ec25e0d7feeb0ea26eba588d703342", func := "loop.example/g03016/laws.FnExactAbilityName", spec := "fnExactAbilityName", named := ["loop.example/g03016/impl.abilityNames"], apart := false, laid := [("loop.example/g03016/impl.abilityNames", laid_loop_example_g03016_impl_abilityNames)], narrowed := true }
def FnExactAbilityNameUptoSaid : Prop := fnExactAbilityNameUptoRow.holds Tryd.pinned (OpenSpec.upto fnExactAbilityNameSpec)

/-- 'laws.FnExactAbilityOf', WHERE WHAT IT READS IS OF BULK AT MOST 1048576: true; the input reads as it did. -/
def fnExactAbilityOfUptoRow : OpenClaim := { program := "ytdbjnlnmlcphlaadoor", sum := "47ec235942ece692105a100c14408b84d4ec25e0d7feeb0ea26eba588d703342", func := "loop.example/g03016/laws.FnExactAbilityOf", spec := "fnExactAbilityOf", named := ["loop.example/g03016/impl.abilityNames"], apart := false, laid := [("loop.example/g03016/impl.abilityNames", laid_loop_example_g03016_impl_abilityNames)], narrowed := true }
def FnExactAbilityOfUptoSaid : Prop := fnExactAbilityOfUptoRow.holds Tryd.pinned (OpenSpec.upto fnExactAbilityOfSpec)

end Rows
end Go.Proofs.YtdbjnlnmlcphlaaDoor
