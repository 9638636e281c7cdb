/-
  No cell of these rows narrows 'for every input' (looked for: loops, veiled, ifaces, maps, wideKeys, modest, calm, conditions, laid).
  DERIVED. THE GIVEN ROWS OF THIS SEAT. 5 by the template 'for every input the law returns true; each argument reads behind the call as it read before'; 0 by the template 'total and deterministic' (their statements: YtdbjnlnmlcphlabTotals.lean).
  GIVEN WITH THE SEED: the statements are not yours to turn. If you find one false, say at which input.
  Laid BY PROGRAM, IN A SANDBOX (cutbox-rows.mjs): the forced cells as the released guide's own fill.sh prints them over the translation b712fc8c6bfbdc74… (all of the seat's roots in one cut). By AI agents, Wed Nov 11 2026. No macro, syntax, notation, axiom, sorry.
-/
import Derived.Test.YtdbjnlnmlcphlabChecked
import GoSem.Claim
import GoSem.ClaimJoined
import GoSem.ClaimMapViews
import Derived.JoinedTies
import Derived.KernelRfl
namespace Go.Proofs.Ytdbjnlnmlcphlab
/- THE CELL 'sum', in the pinned program and in every row, IS THE sha256 OF THE DUMP (.gsa) THAT YtdbjnlnmlcphlabProg.lean LOADS. Nothing in Lean hashes anything: it is a label: what it is worth is what the hold of that sum in a sandbox is worth. -/
noncomputable def Try.pinned : Pinned := { name := "ytdbjnlnmlcphlab", sum := "b712fc8c6bfbdc74f17af037e7c474b20144124ed14e6b6c8fc3d7225d374398", checked := Try.checked }
namespace Rows
def none {H : Type} : Left H := { results := [], args := [] }

/-- 'laws.FnExactBothFaces': WHATEVER THE INPUT: true; the input reads as it did. -/
def fnExactBothFacesSpec : ChangeSpec := { name := "fnExactBothFaces", fn := fun _ => fun
  | [d1, d2] => { results := [.lit (.bool true)], args := [d1, d2] }
  | _ => none }
def fnExactBothFacesRow : OpenClaim := { program := "ytdbjnlnmlcphlab", sum := "b712fc8c6bfbdc74f17af037e7c474b20144124ed14e6b6c8fc3d7225d374398", func := "loop.example/g03016/laws.FnExactBothFaces", spec := "fnExactBothFaces", apart := false }
def FnExactBothFacesSaid : Prop := fnExactBothFacesRow.holds Try.pinned (OpenSpec.ofChange fnExactBothFacesSpec)

/-- ITS FALSE NEIGHBOUR: 'it returns false'. Refute it at one input. -/
def fnExactBothFacesWrong : ChangeSpec := { name := "fnExactBothFaces", fn := fun _ => fun
  | [d1, d2] => { results := [.lit (.bool false)], args := [d1, d2] }
  | _ => none }
def FnExactBothFacesWrongFalsely : Prop := fnExactBothFacesRow.holds Try.pinned (OpenSpec.ofChange fnExactBothFacesWrong)

/-- 'laws.FnExactEitherFace': WHATEVER THE INPUT: true; the input reads as it did. -/
def fnExactEitherFaceSpec : ChangeSpec := { name := "fnExactEitherFace", fn := fun _ => fun
  | [d1, d2] => { results := [.lit (.bool true)], args := [d1, d2] }
  | _ => none }
def fnExactEitherFaceRow : OpenClaim := { program := "ytdbjnlnmlcphlab", sum := "b712fc8c6bfbdc74f17af037e7c474b20144124ed14e6b6c8fc3d7225d374398", func := "loop.example/g03016/laws.FnExactEitherFace", spec := "fnExactEitherFace", apart := false }
def FnExactEitherFaceSaid : Prop := fnExactEitherFaceRow.holds Try.pinned (OpenSpec.ofChange fnExactEitherFaceSpec)

/-- ITS FALSE NEIGHBOUR: 'it returns false'. Refute it at one input. -/
def fnExactEitherFaceWrong : ChangeSpec := { name := "fnExactEitherFace", fn := fun _ => fun
  | [d1, d2] => { results := [.lit (.bool false)], args := [d1, d2] }
  | _ => none }
def FnExactEitherFaceWrongFalsely : Prop := fnExactEitherFaceRow.holds Try.pinned (OpenSpec.ofChange fnExactEitherFaceWrong)

/-- 'laws.FnExactLacking': WHATEVER THE INPUT: true; the input reads as it did. -/
def fnExactLackingSpec : ChangeSpec := { name := "fnExactLacking", fn := fun _ => fun
  | [d1, d2] => { results := [.lit (.bool true)], args := [d1, d2] }
  | _ => none }
def fnExactLackingRow : OpenClaim := { program := "ytdbjnlnmlcphlab", sum := "b712fc8c6bfbdc74f17af037e7c474b20144124ed14e6b6c8fc3d7225d374398", func := "loop.example/g03016/laws.FnExactLacking", spec := "fnExactLacking", apart := false }
def FnExactLackingSaid : Prop := fnExactLackingRow.holds Try.pinned (OpenSpec.ofChange fnExactLackingSpec)

/-- ITS FALSE NEIGHBOUR: 'it returns false'. Refute it at one input. -/
def fnExactLackingWrong : ChangeSpec := { name := "fnExactLacking", fn := fun _ => fun
  | [d1, d2] => { results := [.lit (.bool false)], args := [d1, d2] }
  | _ => none }
def FnExactLackingWrongFalsely : Prop := fnExactLackingRow.holds Try.pinned (OpenSpec.ofChange fnExactLackingWrong)

/-- 'laws.FnExactKindFace': WHATEVER THE INPUT: true; the input reads as it did. -/
def fnExactKindFaceSpec : ChangeSpec := { name := "fnExactKindFace", fn := fun _ => fun
  | [d] => { results := [.lit (.bool true)], args := [d] }
  | _ => none }
def fnExactKindFaceRow : OpenClaim := { program := "ytdbjnlnmlcphlab", sum := "b712fc8c6bfbdc74f17af037e7c474b20144124ed14e6b6c8fc3d7225d374398", func := "loop.example/g03016/laws.FnExactKindFace", spec := "fnExactKindFace", apart := false }
def FnExactKindFaceSaid : Prop := fnExactKindFaceRow.holds Try.pinned (OpenSpec.ofChange fnExactKindFaceSpec)

/-- ITS FALSE NEIGHBOUR: 'it returns false'. Refute it at one input. -/
def fnExactKindFaceWrong : ChangeSpec := { name := "fnExactKindFace", fn := fun _ => fun
  | [d] => { results := [.lit (.bool false)], args := [d] }
  | _ => none }
def FnExactKindFaceWrongFalsely : Prop := fnExactKindFaceRow.holds Try.pinned (OpenSpec.ofChange fnExactKindFaceWrong)

/-- 'laws.FnExactLayerGives': WHATEVER THE INPUT: true; the input reads as it did. -/
def fnExactLayerGivesSpec : ChangeSpec := { name := "fnExactLayerGives", fn := fun _ => fun
  | [d] => { results := [.lit (.bool true)], args := [d] }
  | _ => none }
def fnExactLayerGivesRow : OpenClaim := { program := "ytdbjnlnmlcphlab", sum := "b712fc8c6bfbdc74f17af037e7c474b20144124ed14e6b6c8fc3d7225d374398", func := "loop.example/g03016/laws.FnExactLayerGives", spec := "fnExactLayerGives", apart := false }
def FnExactLayerGivesSaid : Prop := fnExactLayerGivesRow.holds Try.pinned (OpenSpec.ofChange fnExactLayerGivesSpec)

/-- ITS FALSE NEIGHBOUR: 'it returns false'. Refute it at one input. -/
def fnExactLayerGivesWrong : ChangeSpec := { name := "fnExactLayerGives", fn := fun _ => fun
  | [d] => { results := [.lit (.bool false)], args := [d] }
  | _ => none }
def FnExactLayerGivesWrongFalsely : Prop := fnExactLayerGivesRow.holds Try.pinned (OpenSpec.ofChange fnExactLayerGivesWrong)

/- THE SECOND FORM. 'bulk': how many values and letters a reading holds, each counted each time it is reached (what is shared counts as often as it is met; a slice's spare places count too). A statement '..UptoSaid' is the law's where the arguments, and the package variables that the reading takes, are together of bulk at most 1048576: NARROWER than '..Said'. Prove '..Said' where nothing that the law and all that it calls make is longer than what came in: it says more and counts as full. Else prove '..UptoSaid'. A law counts once. -/
mutual
def uptoBulk {H : Type} : DataW H → Nat
  | .lit (.string bytes) => bytes.length + 1
  | .lit _ => 1
  | .nil => 1
  | .ptr d => uptoBulk d + 1
  | .slice elems spare => uptoBulkAll elems + uptoBulkAll spare + 1
  | .agg parts => uptoBulkAll parts + 1
  | .iface _ d => uptoBulk d + 1
  | .map entries => uptoBulkEntries entries + 1
  | .held _ => 1
def uptoBulkAll {H : Type} : List (DataW H) → Nat
  | [] => 0
  | d :: r => uptoBulk d + uptoBulkAll r
def uptoBulkEntries {H : Type} : List (Lit × DataW H) → Nat
  | [] => 0
  | x :: r => uptoBulkEntry x + uptoBulkEntries r
def uptoBulkEntry {H : Type} : Lit × DataW H → Nat
  | (.string bytes, d) => bytes.length + uptoBulk d + 1
  | (_, d) => uptoBulk d + 1
 end
def uptoSmall : (H : Type) → List (DataW H) → Bool := fun _ ds => decide (uptoBulkAll ds ≤ 1048576)
def OpenSpec.upto (s : _root_.Go.ChangeSpec) : _root_.Go.OpenSpec := { _root_.Go.OpenSpec.ofChange s with cond := some uptoSmall }

/-- 'laws.FnExactBothFaces', WHERE WHAT IT READS IS OF BULK AT MOST 1048576: true; the input reads as it did. -/
def fnExactBothFacesUptoRow : OpenClaim := { program := "ytdbjnlnmlcphlab", sum := "b712fc8c6bfbdc74f17af037e7c474b20144124ed14e6b6c8fc3d7225d374398", func := "loop.example/g03016/laws.FnExactBothFaces", spec := "fnExactBothFaces", apart := false, narrowed := true }
def FnExactBothFacesUptoSaid : Prop := fnExactBothFacesUptoRow.holds Try.pinned (OpenSpec.upto fnExactBothFacesSpec)

/-- 'laws.FnExactEitherFace', WHERE WHAT IT READS IS OF BULK AT MOST 1048576: true; the input reads as it did. -/
def fnExactEitherFaceUptoRow : OpenClaim := { program := "ytdbjnlnmlcphlab", sum := "b712fc8c6bfbdc74f17af037e7c474b20144124ed14e6b6c8fc3d7225d374398", func := "loop.example/g03016/laws.FnExactEitherFace", spec := "fnExactEitherFace", apart := false, narrowed := true }
def FnExactEitherFaceUptoSaid : Prop := fnExactEitherFaceUptoRow.holds Try.pinned (OpenSpec.upto fnExactEitherFaceSpec)

/-- 'laws.FnExactLacking', WHERE WHAT IT READS IS OF BULK AT MOST 1048576: true; the input reads as it did. -/
def fnExactLackingUptoRow : OpenClaim := { program := "ytdbjnlnmlcphlab", sum := "b712fc8c6bfbdc74f17af037e7c474b20144124ed14e6b6c8fc3d7225d374398", func := "loop.example/g03016/laws.FnExactLacking", spec := "fnExactLacking", apart := false, narrowed := true }
def FnExactLackingUptoSaid : Prop := fnExactLackingUptoRow.holds Try.pinned (OpenSpec.upto fnExactLackingSpec)

/-- 'laws.FnExactKindFace', WHERE WHAT IT READS IS OF BULK AT MOST 1048576: true; the input reads as it did. -/
def fnExactKindFaceUptoRow : OpenClaim := { program := "ytdbjnlnmlcphlab", sum := "b712fc8c6bfbdc74f17af037e7c474b20144124ed14e6b6c8fc3d7225d374398", func := "loop.example/g03016/laws.FnExactKindFace", spec := "fnExactKindFace", apart := false, narrowed := true }
def FnExactKindFaceUptoSaid : Prop := fnExactKindFaceUptoRow.holds Try.pinned (OpenSpec.upto fnExactKindFaceSpec)

/-- 'laws.FnExactLayerGives', WHERE WHAT IT READS IS OF BULK AT MOST 1048576: true; the input reads as it did. -/
def fnExactLayerGivesUptoRow : OpenClaim := { program := "ytdbjnlnmlcphlab", sum := "b712fc8c6bfbdc74f17af037e7c474b20144124ed14e6b6c8fc3d7225d374398", func := "loop.example/g03016/laws.FnExactLayerGives", spec := "fnExactLayerGives", apart := false, narrowed := true }
def FnExactLayerGivesUptoSaid : Prop := fnExactLayerGivesUptoRow.holds Try.pinned (OpenSpec.upto fnExactLayerGivesSpec)

end Rows
end Go.Proofs.Ytdbjnlnmlcphlab
