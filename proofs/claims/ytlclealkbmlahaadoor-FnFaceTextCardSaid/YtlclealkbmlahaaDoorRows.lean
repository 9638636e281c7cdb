/-
  NARROWER THAN 'FOR EVERY INPUT', by the rows' own cells (each row's printed sentence says how): FnExactFormatFace: laid · FnExactParseFace: laid · FnFaceText: laid.
  DERIVED. THE GIVEN ROWS OF THIS SEAT. 3 by the template 'for every input the law returns true; each argument reads behind the call as it read before'; 0 by the template 'total and deterministic' (their statements: YtlclealkbmlahaaDoorTotals.lean).
  GIVEN WITH THE SEED: the statements are not yours to turn. If you find one false, say at which input.
  Laid BY PROGRAM, IN A SANDBOX (cutbox-rows.mjs): the forced cells as the released guide's own fill.sh prints them over the translation a80ed9acce9de365… (all of the seat's roots in one cut). By AI agents, Wed Nov 11 2026. No macro, syntax, notation, axiom, sorry.
-/
import Derived.Test.YtlclealkbmlahaaDoorChecked
import GoSem.Claim
import GoSem.ClaimJoined
import GoSem.ClaimMapViews
import Derived.JoinedTies
import Derived.KernelRfl
namespace Go.Proofs.YtlclealkbmlahaaDoor
/- THE CELL 'sum', in the pinned program and in every row, IS THE sha256 OF THE DUMP (.gsa) THAT YtlclealkbmlahaaDoorProg.lean LOADS. Nothing in Lean hashes anything: it is a label: what it is worth is what the hold of that sum in a sandbox is worth. -/
noncomputable def Tryd.pinned : Pinned := { name := "ytlclealkbmlahaadoor", sum := "a80ed9acce9de36599273b7f7cc9138136e00ad22ea2783990cc064e59de4edf", checked := Tryd.checked }
namespace Rows
def none {H : Type} : Left H := { results := [], args := [] }

/- WHAT THE LISTED PACKAGE-LEVEL VARIABLES READ AS WHEN THE CALL BEGINS. Each datum BY PROGRAM (the guide's laid-datum.mjs) off the statement by which the dump's own 'gosem.cut.vars' lays the variable. In a bare row this is a premise. The card (YtlclealkbmlahaaDoorCards.lean) ties it to the program's text. -/
def laid_loop_example_g03016_impl_abilityNames {H : Type} : DataW H := .agg [.lit (.string [114, 117, 110]), .lit (.string [107, 101, 101, 112]), .lit (.string [116, 101, 108, 108]), .lit (.string [104, 101, 97, 114]), .lit (.string [115, 97, 118, 101]), .lit (.string [104, 101, 97, 108])]

/-- 'laws.FnExactFormatFace': WHATEVER THE INPUT: true; the input reads as it did. -/
def fnExactFormatFaceSpec : ChangeSpec := { name := "fnExactFormatFace", vars := ["loop.example/g03016/impl.abilityNames"], fn := fun _ => fun
  | [d, g1] => { results := [.lit (.bool true)], args := [d], vars := [g1] }
  | _ => none }
def fnExactFormatFaceRow : OpenClaim := { program := "ytlclealkbmlahaadoor", sum := "a80ed9acce9de36599273b7f7cc9138136e00ad22ea2783990cc064e59de4edf", func := "loop.example/g03016/laws.FnExactFormatFace", spec := "fnExactFormatFace", inPlace := ["internal/abi.NoEscape", "internal/bytealg.MakeNoZero"], named := ["loop.example/g03016/impl.abilityNames"], apart := false, laid := [("loop.example/g03016/impl.abilityNames", laid_loop_example_g03016_impl_abilityNames)] }
def FnExactFormatFaceSaid : Prop := fnExactFormatFaceRow.holds Tryd.pinned (OpenSpec.ofChange fnExactFormatFaceSpec)

/-- ITS FALSE NEIGHBOUR: 'it returns false'. Refute it at one input. -/
def fnExactFormatFaceWrong : ChangeSpec := { name := "fnExactFormatFace", vars := ["loop.example/g03016/impl.abilityNames"], fn := fun _ => fun
  | [d, g1] => { results := [.lit (.bool false)], args := [d], vars := [g1] }
  | _ => none }
def FnExactFormatFaceWrongFalsely : Prop := fnExactFormatFaceRow.holds Tryd.pinned (OpenSpec.ofChange fnExactFormatFaceWrong)

/-- 'laws.FnExactParseFace': WHATEVER THE INPUT: true; the input reads as it did. -/
def fnExactParseFaceSpec : ChangeSpec := { name := "fnExactParseFace", vars := ["loop.example/g03016/impl.abilityNames"], fn := fun _ => fun
  | [d, g1] => { results := [.lit (.bool true)], args := [d], vars := [g1] }
  | _ => none }
def fnExactParseFaceRow : OpenClaim := { program := "ytlclealkbmlahaadoor", sum := "a80ed9acce9de36599273b7f7cc9138136e00ad22ea2783990cc064e59de4edf", func := "loop.example/g03016/laws.FnExactParseFace", spec := "fnExactParseFace", inPlace := ["internal/abi.NoEscape", "internal/bytealg.MakeNoZero"], named := ["loop.example/g03016/impl.abilityNames"], apart := false, laid := [("loop.example/g03016/impl.abilityNames", laid_loop_example_g03016_impl_abilityNames)] }
def FnExactParseFaceSaid : Prop := fnExactParseFaceRow.holds Tryd.pinned (OpenSpec.ofChange fnExactParseFaceSpec)

/-- ITS FALSE NEIGHBOUR: 'it returns false'. Refute it at one input. -/
def fnExactParseFaceWrong : ChangeSpec := { name := "fnExactParseFace", vars := ["loop.example/g03016/impl.abilityNames"], fn := fun _ => fun
  | [d, g1] => { results := [.lit (.bool false)], args := [d], vars := [g1] }
  | _ => none }
def FnExactParseFaceWrongFalsely : Prop := fnExactParseFaceRow.holds Tryd.pinned (OpenSpec.ofChange fnExactParseFaceWrong)

/-- 'laws.FnFaceText': WHATEVER THE INPUT: true; the input reads as it did. -/
def fnFaceTextSpec : ChangeSpec := { name := "fnFaceText", vars := ["loop.example/g03016/impl.abilityNames"], fn := fun _ => fun
  | [d, g1] => { results := [.lit (.bool true)], args := [d], vars := [g1] }
  | _ => none }
def fnFaceTextRow : OpenClaim := { program := "ytlclealkbmlahaadoor", sum := "a80ed9acce9de36599273b7f7cc9138136e00ad22ea2783990cc064e59de4edf", func := "loop.example/g03016/laws.FnFaceText", spec := "fnFaceText", inPlace := ["internal/abi.NoEscape", "internal/bytealg.MakeNoZero"], named := ["loop.example/g03016/impl.abilityNames"], apart := false, laid := [("loop.example/g03016/impl.abilityNames", laid_loop_example_g03016_impl_abilityNames)] }
def FnFaceTextSaid : Prop := fnFaceTextRow.holds Tryd.pinned (OpenSpec.ofChange fnFaceTextSpec)

/-- ITS FALSE NEIGHBOUR: 'it returns false'. Refute it at one input. -/
def fnFaceTextWrong : ChangeSpec := { name := "fnFaceText", vars := ["loop.example/g03016/impl.abilityNames"], fn := fun _ => fun
  | [d, g1] => { results := [.lit (.bool false)], args := [d], vars := [g1] }
  | _ => none }
def FnFaceTextWrongFalsely : Prop := fnFaceTextRow.holds Tryd.pinned (OpenSpec.ofChange fnFaceTextWrong)

/- THE SECOND FORM. 'bulk': how many values and letters a reading holds, each counted each time it is reached (what is shared counts as often as it is met; a slice's spare places count too). A statement '..UptoSaid' is the law's where the arguments, and the package variables that the reading takes, are together of bulk at most 1048576: NARROWER than '..Said'. Prove '..Said' where nothing that the law and all that it calls make is longer than what came in: it says more and counts as full. Else prove '..UptoSaid'. A law counts once. -/
mutual
def uptoBulk {H : Type} : DataW H → Nat
  | .lit (.string bytes) => bytes.length + 1
  | .lit _ => 1
  | .nil => 1
  | .ptr d => uptoBulk d + 1
  | .slice elems spare => uptoBulkAll elems + uptoBulkAll spare + 1
  | .agg parts => uptoBulkAll parts + 1
  | .iface _ d => uptoBulk d + 1
  | .map entries => uptoBulkEntries entries + 1
  | .held _ => 1
def uptoBulkAll {H : Type} : List (DataW H) → Nat
  | [] => 0
  | d :: r => uptoBulk d + uptoBulkAll r
def uptoBulkEntries {H : Type} : List (Lit × DataW H) → Nat
  | [] => 0
  | x :: r => uptoBulkEntry x + uptoBulkEntries r
def uptoBulkEntry {H : Type} : Lit × DataW H → Nat
  | (.string bytes, d) => bytes.length + uptoBulk d + 1
  | (_, d) => uptoBulk d + 1
 end
def uptoSmall : (H : Type) → List (DataW H) → Bool := fun _ ds => decide (uptoBulkAll ds ≤ 1048576)
def OpenSpec.upto (s : _root_.Go.ChangeSpec) : _root_.Go.OpenSpec := { _root_.Go.OpenSpec.ofChange s with cond := some uptoSmall }

/-- 'laws.FnExactFormatFace', WHERE WHAT IT READS IS OF BULK AT MOST 1048576: true; the input reads as it did. -/
def fnExactFormatFaceUptoRow : OpenClaim := { program := "ytlclealkbmlahaadoor", sum := "a80ed9acce9de36599273b7f7cc9138136e00ad22ea2783990cc064e59de4edf", func := "loop.example/g03016/laws.FnExactFormatFace", spec := "fnExactFormatFace", inPlace := ["internal/abi.NoEscape", "internal/bytealg.MakeNoZero"], named := ["loop.example/g03016/impl.abilityNames"], apart := false, laid := [("loop.example/g03016/impl.abilityNames", laid_loop_example_g03016_impl_abilityNames)], narrowed := true }
def FnExactFormatFaceUptoSaid : Prop := fnExactFormatFaceUptoRow.holds Tryd.pinned (OpenSpec.upto fnExactFormatFaceSpec)

/-- 'laws.FnExactParseFace', WHERE WHAT IT READS IS OF BULK AT MOST 1048576: true; the input reads as it did. -/
def fnExactParseFaceUptoRow : OpenClaim := { program := "ytlclealkbmlahaadoor", sum := "a80ed9acce9de36599273b7f7cc9138136e00ad22ea2783990cc064e59de4edf", func := "loop.example/g03016/laws.FnExactParseFace", spec := "fnExactParseFace", inPlace := ["internal/abi.NoEscape", "internal/bytealg.MakeNoZero"], named := ["loop.example/g03016/impl.abilityNames"], apart := false, laid := [("loop.example/g03016/impl.abilityNames", laid_loop_example_g03016_impl_abilityNames)], narrowed := true }
def FnExactParseFaceUptoSaid : Prop := fnExactParseFaceUptoRow.holds Tryd.pinned (OpenSpec.upto fnExactParseFaceSpec)

/-- 'laws.FnFaceText', WHERE WHAT IT READS IS OF BULK AT MOST 1048576: true; the input reads as it did. -/
def fnFaceTextUptoRow : OpenClaim := { program := "ytlclealkbmlahaadoor", sum := "a80ed9acce9de36599273b7f7cc9138136e00ad22ea2783990cc064e59de4edf", func := "loop.example/g03016/laws.FnFaceText", spec := "fnFaceText", inPlace := ["internal/abi.NoEscape", "internal/bytealg.MakeNoZero"], named := ["loop.example/g03016/impl.abilityNames"], apart := false, laid := [("loop.example/g03016/impl.abilityNames", laid_loop_example_g03016_impl_abilityNames)], narrowed := true }
def FnFaceTextUptoSaid : Prop := fnFaceTextUptoRow.holds Tryd.pinned (OpenSpec.upto fnFaceTextSpec)

end Rows
end Go.Proofs.YtlclealkbmlahaaDoor
