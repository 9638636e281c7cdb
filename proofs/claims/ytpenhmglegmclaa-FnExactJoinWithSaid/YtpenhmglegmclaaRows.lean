/-
  No cell of these rows narrows 'for every input' (looked for: loops, veiled, ifaces, maps, wideKeys, modest, calm, conditions, laid).
  DERIVED. THE GIVEN ROWS OF THIS SEAT. 12 by the template 'for every input the law returns true; each argument reads behind the call as it read before'; 0 by the template 'total and deterministic' (their statements: YtpenhmglegmclaaTotals.lean).
  GIVEN WITH THE SEED: the statements are not yours to turn. If you find one false, say at which input.
  Laid BY PROGRAM, IN A SANDBOX (cutbox-rows.mjs): the forced cells as the released guide's own fill.sh prints them over the translation a56ea1fcf6429792… (all of the seat's roots in one cut). By AI agents, Wed Nov 11 2026. No macro, syntax, notation, axiom, sorry.
-/
import Derived.Test.YtpenhmglegmclaaChecked
import GoSem.Claim
import GoSem.ClaimJoined
import GoSem.ClaimMapViews
import Derived.JoinedTies
import Derived.KernelRfl
namespace Go.Proofs.Ytpenhmglegmclaa
/- THE CELL 'sum', in the pinned program and in every row, IS THE sha256 OF THE DUMP (.gsa) THAT YtpenhmglegmclaaProg.lean LOADS. Nothing in Lean hashes anything: it is a label: what it is worth is what the hold of that sum in a sandbox is worth. -/
noncomputable def Try.pinned : Pinned := { name := "ytpenhmglegmclaa", sum := "a56ea1fcf642979207a731f99bb73a8d17ffbe0ad515b22b3a869f3ed94065ed", checked := Try.checked }
namespace Rows
def none {H : Type} : Left H := { results := [], args := [] }

/-- 'laws.FnExactLayerNeeds': WHATEVER THE INPUT: true; the input reads as it did. -/
def fnExactLayerNeedsSpec : ChangeSpec := { name := "fnExactLayerNeeds", fn := fun _ => fun
  | [d] => { results := [.lit (.bool true)], args := [d] }
  | _ => none }
def fnExactLayerNeedsRow : OpenClaim := { program := "ytpenhmglegmclaa", sum := "a56ea1fcf642979207a731f99bb73a8d17ffbe0ad515b22b3a869f3ed94065ed", func := "loop.example/g03016/laws.FnExactLayerNeeds", spec := "fnExactLayerNeeds", apart := false }
def FnExactLayerNeedsSaid : Prop := fnExactLayerNeedsRow.holds Try.pinned (OpenSpec.ofChange fnExactLayerNeedsSpec)

/-- ITS FALSE NEIGHBOUR: 'it returns false'. Refute it at one input. -/
def fnExactLayerNeedsWrong : ChangeSpec := { name := "fnExactLayerNeeds", fn := fun _ => fun
  | [d] => { results := [.lit (.bool false)], args := [d] }
  | _ => none }
def FnExactLayerNeedsWrongFalsely : Prop := fnExactLayerNeedsRow.holds Try.pinned (OpenSpec.ofChange fnExactLayerNeedsWrong)

/-- 'laws.FnExactAbilityOfMethod': WHATEVER THE INPUT: true; the input reads as it did. -/
def fnExactAbilityOfMethodSpec : ChangeSpec := { name := "fnExactAbilityOfMethod", fn := fun _ => fun
  | [d] => { results := [.lit (.bool true)], args := [d] }
  | _ => none }
def fnExactAbilityOfMethodRow : OpenClaim := { program := "ytpenhmglegmclaa", sum := "a56ea1fcf642979207a731f99bb73a8d17ffbe0ad515b22b3a869f3ed94065ed", func := "loop.example/g03016/laws.FnExactAbilityOfMethod", spec := "fnExactAbilityOfMethod", apart := false }
def FnExactAbilityOfMethodSaid : Prop := fnExactAbilityOfMethodRow.holds Try.pinned (OpenSpec.ofChange fnExactAbilityOfMethodSpec)

/-- ITS FALSE NEIGHBOUR: 'it returns false'. Refute it at one input. -/
def fnExactAbilityOfMethodWrong : ChangeSpec := { name := "fnExactAbilityOfMethod", fn := fun _ => fun
  | [d] => { results := [.lit (.bool false)], args := [d] }
  | _ => none }
def FnExactAbilityOfMethodWrongFalsely : Prop := fnExactAbilityOfMethodRow.holds Try.pinned (OpenSpec.ofChange fnExactAbilityOfMethodWrong)

/-- 'laws.FnExactCountFace': WHATEVER THE INPUT: true; the input reads as it did. -/
def fnExactCountFaceSpec : ChangeSpec := { name := "fnExactCountFace", fn := fun _ => fun
  | [d] => { results := [.lit (.bool true)], args := [d] }
  | _ => none }
def fnExactCountFaceRow : OpenClaim := { program := "ytpenhmglegmclaa", sum := "a56ea1fcf642979207a731f99bb73a8d17ffbe0ad515b22b3a869f3ed94065ed", func := "loop.example/g03016/laws.FnExactCountFace", spec := "fnExactCountFace", apart := false }
def FnExactCountFaceSaid : Prop := fnExactCountFaceRow.holds Try.pinned (OpenSpec.ofChange fnExactCountFaceSpec)

/-- ITS FALSE NEIGHBOUR: 'it returns false'. Refute it at one input. -/
def fnExactCountFaceWrong : ChangeSpec := { name := "fnExactCountFace", fn := fun _ => fun
  | [d] => { results := [.lit (.bool false)], args := [d] }
  | _ => none }
def FnExactCountFaceWrongFalsely : Prop := fnExactCountFaceRow.holds Try.pinned (OpenSpec.ofChange fnExactCountFaceWrong)

/-- 'laws.FnExactFacesUnder': WHATEVER THE INPUT: true; the input reads as it did. -/
def fnExactFacesUnderSpec : ChangeSpec := { name := "fnExactFacesUnder", fn := fun _ => fun
  | [d] => { results := [.lit (.bool true)], args := [d] }
  | _ => none }
def fnExactFacesUnderRow : OpenClaim := { program := "ytpenhmglegmclaa", sum := "a56ea1fcf642979207a731f99bb73a8d17ffbe0ad515b22b3a869f3ed94065ed", func := "loop.example/g03016/laws.FnExactFacesUnder", spec := "fnExactFacesUnder", apart := false }
def FnExactFacesUnderSaid : Prop := fnExactFacesUnderRow.holds Try.pinned (OpenSpec.ofChange fnExactFacesUnderSpec)

/-- ITS FALSE NEIGHBOUR: 'it returns false'. Refute it at one input. -/
def fnExactFacesUnderWrong : ChangeSpec := { name := "fnExactFacesUnder", fn := fun _ => fun
  | [d] => { results := [.lit (.bool false)], args := [d] }
  | _ => none }
def FnExactFacesUnderWrongFalsely : Prop := fnExactFacesUnderRow.holds Try.pinned (OpenSpec.ofChange fnExactFacesUnderWrong)

/-- 'laws.FnExactWantOf': WHATEVER THE INPUT: true; the input reads as it did. -/
def fnExactWantOfSpec : ChangeSpec := { name := "fnExactWantOf", fn := fun _ => fun
  | [d] => { results := [.lit (.bool true)], args := [d] }
  | _ => none }
def fnExactWantOfRow : OpenClaim := { program := "ytpenhmglegmclaa", sum := "a56ea1fcf642979207a731f99bb73a8d17ffbe0ad515b22b3a869f3ed94065ed", func := "loop.example/g03016/laws.FnExactWantOf", spec := "fnExactWantOf", apart := false }
def FnExactWantOfSaid : Prop := fnExactWantOfRow.holds Try.pinned (OpenSpec.ofChange fnExactWantOfSpec)

/-- ITS FALSE NEIGHBOUR: 'it returns false'. Refute it at one input. -/
def fnExactWantOfWrong : ChangeSpec := { name := "fnExactWantOf", fn := fun _ => fun
  | [d] => { results := [.lit (.bool false)], args := [d] }
  | _ => none }
def FnExactWantOfWrongFalsely : Prop := fnExactWantOfRow.holds Try.pinned (OpenSpec.ofChange fnExactWantOfWrong)

/-- 'laws.FnOffers': WHATEVER THE INPUT: true; the input reads as it did. -/
def fnOffersSpec : ChangeSpec := { name := "fnOffers", fn := fun _ => fun
  | [d] => { results := [.lit (.bool true)], args := [d] }
  | _ => none }
def fnOffersRow : OpenClaim := { program := "ytpenhmglegmclaa", sum := "a56ea1fcf642979207a731f99bb73a8d17ffbe0ad515b22b3a869f3ed94065ed", func := "loop.example/g03016/laws.FnOffers", spec := "fnOffers", apart := false }
def FnOffersSaid : Prop := fnOffersRow.holds Try.pinned (OpenSpec.ofChange fnOffersSpec)

/-- ITS FALSE NEIGHBOUR: 'it returns false'. Refute it at one input. -/
def fnOffersWrong : ChangeSpec := { name := "fnOffers", fn := fun _ => fun
  | [d] => { results := [.lit (.bool false)], args := [d] }
  | _ => none }
def FnOffersWrongFalsely : Prop := fnOffersRow.holds Try.pinned (OpenSpec.ofChange fnOffersWrong)

/-- 'laws.FnExactFaceOfMethods': WHATEVER THE INPUT: true; the input reads as it did. -/
def fnExactFaceOfMethodsSpec : ChangeSpec := { name := "fnExactFaceOfMethods", fn := fun _ => fun
  | [d] => { results := [.lit (.bool true)], args := [d] }
  | _ => none }
def fnExactFaceOfMethodsRow : OpenClaim := { program := "ytpenhmglegmclaa", sum := "a56ea1fcf642979207a731f99bb73a8d17ffbe0ad515b22b3a869f3ed94065ed", func := "loop.example/g03016/laws.FnExactFaceOfMethods", spec := "fnExactFaceOfMethods", apart := false }
def FnExactFaceOfMethodsSaid : Prop := fnExactFaceOfMethodsRow.holds Try.pinned (OpenSpec.ofChange fnExactFaceOfMethodsSpec)

/-- ITS FALSE NEIGHBOUR: 'it returns false'. Refute it at one input. -/
def fnExactFaceOfMethodsWrong : ChangeSpec := { name := "fnExactFaceOfMethods", fn := fun _ => fun
  | [d] => { results := [.lit (.bool false)], args := [d] }
  | _ => none }
def FnExactFaceOfMethodsWrongFalsely : Prop := fnExactFaceOfMethodsRow.holds Try.pinned (OpenSpec.ofChange fnExactFaceOfMethodsWrong)

/-- 'laws.FnFaceSets': WHATEVER THE INPUT: true; the input reads as it did. -/
def fnFaceSetsSpec : ChangeSpec := { name := "fnFaceSets", fn := fun _ => fun
  | [d] => { results := [.lit (.bool true)], args := [d] }
  | _ => none }
def fnFaceSetsRow : OpenClaim := { program := "ytpenhmglegmclaa", sum := "a56ea1fcf642979207a731f99bb73a8d17ffbe0ad515b22b3a869f3ed94065ed", func := "loop.example/g03016/laws.FnFaceSets", spec := "fnFaceSets", apart := false }
def FnFaceSetsSaid : Prop := fnFaceSetsRow.holds Try.pinned (OpenSpec.ofChange fnFaceSetsSpec)

/-- ITS FALSE NEIGHBOUR: 'it returns false'. Refute it at one input. -/
def fnFaceSetsWrong : ChangeSpec := { name := "fnFaceSets", fn := fun _ => fun
  | [d] => { results := [.lit (.bool false)], args := [d] }
  | _ => none }
def FnFaceSetsWrongFalsely : Prop := fnFaceSetsRow.holds Try.pinned (OpenSpec.ofChange fnFaceSetsWrong)

/-- 'laws.FnExactJoinWith': WHATEVER THE INPUT: true; the input reads as it did. -/
def fnExactJoinWithSpec : ChangeSpec := { name := "fnExactJoinWith", fn := fun _ => fun
  | [d1, d2] => { results := [.lit (.bool true)], args := [d1, d2] }
  | _ => none }
def fnExactJoinWithRow : OpenClaim := { program := "ytpenhmglegmclaa", sum := "a56ea1fcf642979207a731f99bb73a8d17ffbe0ad515b22b3a869f3ed94065ed", func := "loop.example/g03016/laws.FnExactJoinWith", spec := "fnExactJoinWith", inPlace := ["internal/abi.NoEscape", "internal/bytealg.MakeNoZero"], apart := false }
def FnExactJoinWithSaid : Prop := fnExactJoinWithRow.holds Try.pinned (OpenSpec.ofChange fnExactJoinWithSpec)

/-- ITS FALSE NEIGHBOUR: 'it returns false'. Refute it at one input. -/
def fnExactJoinWithWrong : ChangeSpec := { name := "fnExactJoinWith", fn := fun _ => fun
  | [d1, d2] => { results := [.lit (.bool false)], args := [d1, d2] }
  | _ => none }
def FnExactJoinWithWrongFalsely : Prop := fnExactJoinWithRow.holds Try.pinned (OpenSpec.ofChange fnExactJoinWithWrong)

/-- 'laws.FnUnder': WHATEVER THE INPUT: true; the input reads as it did. -/
def fnUnderSpec : ChangeSpec := { name := "fnUnder", fn := fun _ => fun
  | [d] => { results := [.lit (.bool true)], args := [d] }
  | _ => none }
def fnUnderRow : OpenClaim := { program := "ytpenhmglegmclaa", sum := "a56ea1fcf642979207a731f99bb73a8d17ffbe0ad515b22b3a869f3ed94065ed", func := "loop.example/g03016/laws.FnUnder", spec := "fnUnder", apart := false }
def FnUnderSaid : Prop := fnUnderRow.holds Try.pinned (OpenSpec.ofChange fnUnderSpec)

/-- ITS FALSE NEIGHBOUR: 'it returns false'. Refute it at one input. -/
def fnUnderWrong : ChangeSpec := { name := "fnUnder", fn := fun _ => fun
  | [d] => { results := [.lit (.bool false)], args := [d] }
  | _ => none }
def FnUnderWrongFalsely : Prop := fnUnderRow.holds Try.pinned (OpenSpec.ofChange fnUnderWrong)

/-- 'laws.FnExactNewCore': WHATEVER THE INPUT: true; the input reads as it did. -/
def fnExactNewCoreSpec : ChangeSpec := { name := "fnExactNewCore", fn := fun _ => fun
  | [d] => { results := [.lit (.bool true)], args := [d] }
  | _ => none }
def fnExactNewCoreRow : OpenClaim := { program := "ytpenhmglegmclaa", sum := "a56ea1fcf642979207a731f99bb73a8d17ffbe0ad515b22b3a869f3ed94065ed", func := "loop.example/g03016/laws.FnExactNewCore", spec := "fnExactNewCore", apart := false }
def FnExactNewCoreSaid : Prop := fnExactNewCoreRow.holds Try.pinned (OpenSpec.ofChange fnExactNewCoreSpec)

/-- ITS FALSE NEIGHBOUR: 'it returns false'. Refute it at one input. -/
def fnExactNewCoreWrong : ChangeSpec := { name := "fnExactNewCore", fn := fun _ => fun
  | [d] => { results := [.lit (.bool false)], args := [d] }
  | _ => none }
def FnExactNewCoreWrongFalsely : Prop := fnExactNewCoreRow.holds Try.pinned (OpenSpec.ofChange fnExactNewCoreWrong)

/-- 'laws.FnExactIsCall': WHATEVER THE INPUT: true; the input reads as it did. -/
def fnExactIsCallSpec : ChangeSpec := { name := "fnExactIsCall", fn := fun _ => fun
  | [d] => { results := [.lit (.bool true)], args := [d] }
  | _ => none }
def fnExactIsCallRow : OpenClaim := { program := "ytpenhmglegmclaa", sum := "a56ea1fcf642979207a731f99bb73a8d17ffbe0ad515b22b3a869f3ed94065ed", func := "loop.example/g03016/laws.FnExactIsCall", spec := "fnExactIsCall", apart := false }
def FnExactIsCallSaid : Prop := fnExactIsCallRow.holds Try.pinned (OpenSpec.ofChange fnExactIsCallSpec)

/-- ITS FALSE NEIGHBOUR: 'it returns false'. Refute it at one input. -/
def fnExactIsCallWrong : ChangeSpec := { name := "fnExactIsCall", fn := fun _ => fun
  | [d] => { results := [.lit (.bool false)], args := [d] }
  | _ => none }
def FnExactIsCallWrongFalsely : Prop := fnExactIsCallRow.holds Try.pinned (OpenSpec.ofChange fnExactIsCallWrong)

/- THE SECOND FORM. 'bulk': how many values and letters a reading holds, each counted each time it is reached (what is shared counts as often as it is met; a slice's spare places count too). A statement '..UptoSaid' is the law's where the arguments, and the package variables that the reading takes, are together of bulk at most 1048576: NARROWER than '..Said'. Prove '..Said' where nothing that the law and all that it calls make is longer than what came in: it says more and counts as full. Else prove '..UptoSaid'. A law counts once. -/
mutual
def uptoBulk {H : Type} : DataW H → Nat
  | .lit (.string bytes) => bytes.length + 1
  | .lit _ => 1
  | .nil => 1
  | .ptr d => uptoBulk d + 1
  | .slice elems spare => uptoBulkAll elems + uptoBulkAll spare + 1
  | .agg parts => uptoBulkAll parts + 1
  | .iface _ d => uptoBulk d + 1
  | .map entries => uptoBulkEntries entries + 1
  | .held _ => 1
def uptoBulkAll {H : Type} : List (DataW H) → Nat
  | [] => 0
  | d :: r => uptoBulk d + uptoBulkAll r
def uptoBulkEntries {H : Type} : List (Lit × DataW H) → Nat
  | [] => 0
  | x :: r => uptoBulkEntry x + uptoBulkEntries r
def uptoBulkEntry {H : Type} : Lit × DataW H → Nat
  | (.string bytes, d) => bytes.length + uptoBulk d + 1
  | (_, d) => uptoBulk d + 1
 end
def uptoSmall : (H : Type) → List (DataW H) → Bool := fun _ ds => decide (uptoBulkAll ds ≤ 1048576)
def OpenSpec.upto (s : _root_.Go.ChangeSpec) : _root_.Go.OpenSpec := { _root_.Go.OpenSpec.ofChange s with cond := some uptoSmall }

/-- 'laws.FnExactLayerNeeds', WHERE WHAT IT READS IS OF BULK AT MOST 1048576: true; the input reads as it did. -/
def fnExactLayerNeedsUptoRow : OpenClaim := { program := "ytpenhmglegmclaa", sum := "a56ea1fcf642979207a731f99bb73a8d17ffbe0ad515b22b3a869f3ed94065ed", func := "loop.example/g03016/laws.FnExactLayerNeeds", spec := "fnExactLayerNeeds", apart := false, narrowed := true }
def FnExactLayerNeedsUptoSaid : Prop := fnExactLayerNeedsUptoRow.holds Try.pinned (OpenSpec.upto fnExactLayerNeedsSpec)

/-- 'laws.FnExactAbilityOfMethod', WHERE WHAT IT READS IS OF BULK AT MOST 1048576: true; the input reads as it did. -/
def fnExactAbilityOfMethodUptoRow : OpenClaim := { program := "ytpenhmglegmclaa", sum := "a56ea1fcf642979207a731f99bb73a8d17ffbe0ad515b22b3a869f3ed94065ed", func := "loop.example/g03016/laws.FnExactAbilityOfMethod", spec := "fnExactAbilityOfMethod", apart := false, narrowed := true }
def FnExactAbilityOfMethodUptoSaid : Prop := fnExactAbilityOfMethodUptoRow.holds Try.pinned (OpenSpec.upto fnExactAbilityOfMethodSpec)

/-- 'laws.FnExactCountFace', WHERE WHAT IT READS IS OF BULK AT MOST 1048576: true; the input reads as it did. -/
def fnExactCountFaceUptoRow : OpenClaim := { program := "ytpenhmglegmclaa", sum := "a56ea1fcf642979207a731f99bb73a8d17ffbe0ad515b22b3a869f3ed94065ed", func := "loop.example/g03016/laws.FnExactCountFace", spec := "fnExactCountFace", apart := false, narrowed := true }
def FnExactCountFaceUptoSaid : Prop := fnExactCountFaceUptoRow.holds Try.pinned (OpenSpec.upto fnExactCountFaceSpec)

/-- 'laws.FnExactFacesUnder', WHERE WHAT IT READS IS OF BULK AT MOST 1048576: true; the input reads as it did. -/
def fnExactFacesUnderUptoRow : OpenClaim := { program := "ytpenhmglegmclaa", sum := "a56ea1fcf642979207a731f99bb73a8d17ffbe0ad515b22b3a869f3ed94065ed", func := "loop.example/g03016/laws.FnExactFacesUnder", spec := "fnExactFacesUnder", apart := false, narrowed := true }
def FnExactFacesUnderUptoSaid : Prop := fnExactFacesUnderUptoRow.holds Try.pinned (OpenSpec.upto fnExactFacesUnderSpec)

/-- 'laws.FnExactWantOf', WHERE WHAT IT READS IS OF BULK AT MOST 1048576: true; the input reads as it did. -/
def fnExactWantOfUptoRow : OpenClaim := { program := "ytpenhmglegmclaa", sum := "a56ea1fcf642979207a731f99bb73a8d17ffbe0ad515b22b3a869f3ed94065ed", func := "loop.example/g03016/laws.FnExactWantOf", spec := "fnExactWantOf", apart := false, narrowed := true }
def FnExactWantOfUptoSaid : Prop := fnExactWantOfUptoRow.holds Try.pinned (OpenSpec.upto fnExactWantOfSpec)

/-- 'laws.FnOffers', WHERE WHAT IT READS IS OF BULK AT MOST 1048576: true; the input reads as it did. -/
def fnOffersUptoRow : OpenClaim := { program := "ytpenhmglegmclaa", sum := "a56ea1fcf642979207a731f99bb73a8d17ffbe0ad515b22b3a869f3ed94065ed", func := "loop.example/g03016/laws.FnOffers", spec := "fnOffers", apart := false, narrowed := true }
def FnOffersUptoSaid : Prop := fnOffersUptoRow.holds Try.pinned (OpenSpec.upto fnOffersSpec)

/-- 'laws.FnExactFaceOfMethods', WHERE WHAT IT READS IS OF BULK AT MOST 1048576: true; the input reads as it did. -/
def fnExactFaceOfMethodsUptoRow : OpenClaim := { program := "ytpenhmglegmclaa", sum := "a56ea1fcf642979207a731f99bb73a8d17ffbe0ad515b22b3a869f3ed94065ed", func := "loop.example/g03016/laws.FnExactFaceOfMethods", spec := "fnExactFaceOfMethods", apart := false, narrowed := true }
def FnExactFaceOfMethodsUptoSaid : Prop := fnExactFaceOfMethodsUptoRow.holds Try.pinned (OpenSpec.upto fnExactFaceOfMethodsSpec)

/-- 'laws.FnFaceSets', WHERE WHAT IT READS IS OF BULK AT MOST 1048576: true; the input reads as it did. -/
def fnFaceSetsUptoRow : OpenClaim := { program := "ytpenhmglegmclaa", sum := "a56ea1fcf642979207a731f99bb73a8d17ffbe0ad515b22b3a869f3ed94065ed", func := "loop.example/g03016/laws.FnFaceSets", spec := "fnFaceSets", apart := false, narrowed := true }
def FnFaceSetsUptoSaid : Prop := fnFaceSetsUptoRow.holds Try.pinned (OpenSpec.upto fnFaceSetsSpec)

/-- 'laws.FnExactJoinWith', WHERE WHAT IT READS IS OF BULK AT MOST 1048576: true; the input reads as it did. -/
def fnExactJoinWithUptoRow : OpenClaim := { program := "ytpenhmglegmclaa", sum := "a56ea1fcf642979207a731f99bb73a8d17ffbe0ad515b22b3a869f3ed94065ed", func := "loop.example/g03016/laws.FnExactJoinWith", spec := "fnExactJoinWith", inPlace := ["internal/abi.NoEscape", "internal/bytealg.MakeNoZero"], apart := false, narrowed := true }
def FnExactJoinWithUptoSaid : Prop := fnExactJoinWithUptoRow.holds Try.pinned (OpenSpec.upto fnExactJoinWithSpec)

/-- 'laws.FnUnder', WHERE WHAT IT READS IS OF BULK AT MOST 1048576: true; the input reads as it did. -/
def fnUnderUptoRow : OpenClaim := { program := "ytpenhmglegmclaa", sum := "a56ea1fcf642979207a731f99bb73a8d17ffbe0ad515b22b3a869f3ed94065ed", func := "loop.example/g03016/laws.FnUnder", spec := "fnUnder", apart := false, narrowed := true }
def FnUnderUptoSaid : Prop := fnUnderUptoRow.holds Try.pinned (OpenSpec.upto fnUnderSpec)

/-- 'laws.FnExactNewCore', WHERE WHAT IT READS IS OF BULK AT MOST 1048576: true; the input reads as it did. -/
def fnExactNewCoreUptoRow : OpenClaim := { program := "ytpenhmglegmclaa", sum := "a56ea1fcf642979207a731f99bb73a8d17ffbe0ad515b22b3a869f3ed94065ed", func := "loop.example/g03016/laws.FnExactNewCore", spec := "fnExactNewCore", apart := false, narrowed := true }
def FnExactNewCoreUptoSaid : Prop := fnExactNewCoreUptoRow.holds Try.pinned (OpenSpec.upto fnExactNewCoreSpec)

/-- 'laws.FnExactIsCall', WHERE WHAT IT READS IS OF BULK AT MOST 1048576: true; the input reads as it did. -/
def fnExactIsCallUptoRow : OpenClaim := { program := "ytpenhmglegmclaa", sum := "a56ea1fcf642979207a731f99bb73a8d17ffbe0ad515b22b3a869f3ed94065ed", func := "loop.example/g03016/laws.FnExactIsCall", spec := "fnExactIsCall", apart := false, narrowed := true }
def FnExactIsCallUptoSaid : Prop := fnExactIsCallUptoRow.holds Try.pinned (OpenSpec.upto fnExactIsCallSpec)

end Rows
end Go.Proofs.Ytpenhmglegmclaa
