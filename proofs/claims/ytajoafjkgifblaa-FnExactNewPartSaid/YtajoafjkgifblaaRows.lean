/-
  No cell of these rows narrows 'for every input' (looked for: loops, veiled, ifaces, maps, wideKeys, modest, calm, conditions, laid).
  DERIVED. THE GIVEN ROWS OF THIS SEAT. 8 by the template 'for every input the law returns true; each argument reads behind the call as it read before'; 0 by the template 'total and deterministic' (their statements: YtajoafjkgifblaaTotals.lean).
  GIVEN WITH THE SEED: the statements are not yours to turn. If you find one false, say at which input.
  Laid BY PROGRAM, IN A SANDBOX (cutbox-rows.mjs): the forced cells as the released guide's own fill.sh prints them over the translation c152920fb1c93b42… (all of the seat's roots in one cut). By AI agents, Wed Nov 11 2026. No macro, syntax, notation, axiom, sorry.
-/
import Derived.Test.YtajoafjkgifblaaChecked
import GoSem.Claim
import GoSem.ClaimJoined
import GoSem.ClaimMapViews
import Derived.JoinedTies
import Derived.KernelRfl
namespace Go.Proofs.Ytajoafjkgifblaa
/- THE CELL 'sum', in the pinned program and in every row, IS THE sha256 OF THE DUMP (.gsa) THAT YtajoafjkgifblaaProg.lean LOADS. Nothing in Lean hashes anything: it is a label: what it is worth is what the hold of that sum in a sandbox is worth. -/
noncomputable def Try.pinned : Pinned := { name := "ytajoafjkgifblaa", sum := "c152920fb1c93b42f8057ca1fe4214e3b7bdb19d1b90568801c92511ee4c44fb", checked := Try.checked }
namespace Rows
def none {H : Type} : Left H := { results := [], args := [] }

/-- 'laws.FnExactIsCells': WHATEVER THE INPUT: true; the input reads as it did. -/
def fnExactIsCellsSpec : ChangeSpec := { name := "fnExactIsCells", fn := fun _ => fun
  | [d] => { results := [.lit (.bool true)], args := [d] }
  | _ => none }
def fnExactIsCellsRow : OpenClaim := { program := "ytajoafjkgifblaa", sum := "c152920fb1c93b42f8057ca1fe4214e3b7bdb19d1b90568801c92511ee4c44fb", func := "loop.example/g03016/laws.FnExactIsCells", spec := "fnExactIsCells", apart := false }
def FnExactIsCellsSaid : Prop := fnExactIsCellsRow.holds Try.pinned (OpenSpec.ofChange fnExactIsCellsSpec)

/-- ITS FALSE NEIGHBOUR: 'it returns false'. Refute it at one input. -/
def fnExactIsCellsWrong : ChangeSpec := { name := "fnExactIsCells", fn := fun _ => fun
  | [d] => { results := [.lit (.bool false)], args := [d] }
  | _ => none }
def FnExactIsCellsWrongFalsely : Prop := fnExactIsCellsRow.holds Try.pinned (OpenSpec.ofChange fnExactIsCellsWrong)

/-- 'laws.FnExactSameCore': WHATEVER THE INPUT: true; the input reads as it did. -/
def fnExactSameCoreSpec : ChangeSpec := { name := "fnExactSameCore", fn := fun _ => fun
  | [d1, d2] => { results := [.lit (.bool true)], args := [d1, d2] }
  | _ => none }
def fnExactSameCoreRow : OpenClaim := { program := "ytajoafjkgifblaa", sum := "c152920fb1c93b42f8057ca1fe4214e3b7bdb19d1b90568801c92511ee4c44fb", func := "loop.example/g03016/laws.FnExactSameCore", spec := "fnExactSameCore", apart := false }
def FnExactSameCoreSaid : Prop := fnExactSameCoreRow.holds Try.pinned (OpenSpec.ofChange fnExactSameCoreSpec)

/-- ITS FALSE NEIGHBOUR: 'it returns false'. Refute it at one input. -/
def fnExactSameCoreWrong : ChangeSpec := { name := "fnExactSameCore", fn := fun _ => fun
  | [d1, d2] => { results := [.lit (.bool false)], args := [d1, d2] }
  | _ => none }
def FnExactSameCoreWrongFalsely : Prop := fnExactSameCoreRow.holds Try.pinned (OpenSpec.ofChange fnExactSameCoreWrong)

/-- 'laws.FnExactIsCore': WHATEVER THE INPUT: true; the input reads as it did. -/
def fnExactIsCoreSpec : ChangeSpec := { name := "fnExactIsCore", fn := fun _ => fun
  | [d] => { results := [.lit (.bool true)], args := [d] }
  | _ => none }
def fnExactIsCoreRow : OpenClaim := { program := "ytajoafjkgifblaa", sum := "c152920fb1c93b42f8057ca1fe4214e3b7bdb19d1b90568801c92511ee4c44fb", func := "loop.example/g03016/laws.FnExactIsCore", spec := "fnExactIsCore", apart := false }
def FnExactIsCoreSaid : Prop := fnExactIsCoreRow.holds Try.pinned (OpenSpec.ofChange fnExactIsCoreSpec)

/-- ITS FALSE NEIGHBOUR: 'it returns false'. Refute it at one input. -/
def fnExactIsCoreWrong : ChangeSpec := { name := "fnExactIsCore", fn := fun _ => fun
  | [d] => { results := [.lit (.bool false)], args := [d] }
  | _ => none }
def FnExactIsCoreWrongFalsely : Prop := fnExactIsCoreRow.holds Try.pinned (OpenSpec.ofChange fnExactIsCoreWrong)

/-- 'laws.FnExactNewPart': WHATEVER THE INPUT: true; the input reads as it did. -/
def fnExactNewPartSpec : ChangeSpec := { name := "fnExactNewPart", fn := fun _ => fun
  | [d] => { results := [.lit (.bool true)], args := [d] }
  | _ => none }
def fnExactNewPartRow : OpenClaim := { program := "ytajoafjkgifblaa", sum := "c152920fb1c93b42f8057ca1fe4214e3b7bdb19d1b90568801c92511ee4c44fb", func := "loop.example/g03016/laws.FnExactNewPart", spec := "fnExactNewPart", apart := false }
def FnExactNewPartSaid : Prop := fnExactNewPartRow.holds Try.pinned (OpenSpec.ofChange fnExactNewPartSpec)

/-- ITS FALSE NEIGHBOUR: 'it returns false'. Refute it at one input. -/
def fnExactNewPartWrong : ChangeSpec := { name := "fnExactNewPart", fn := fun _ => fun
  | [d] => { results := [.lit (.bool false)], args := [d] }
  | _ => none }
def FnExactNewPartWrongFalsely : Prop := fnExactNewPartRow.holds Try.pinned (OpenSpec.ofChange fnExactNewPartWrong)

/-- 'laws.FnExactSamePart': WHATEVER THE INPUT: true; the input reads as it did. -/
def fnExactSamePartSpec : ChangeSpec := { name := "fnExactSamePart", fn := fun _ => fun
  | [d1, d2] => { results := [.lit (.bool true)], args := [d1, d2] }
  | _ => none }
def fnExactSamePartRow : OpenClaim := { program := "ytajoafjkgifblaa", sum := "c152920fb1c93b42f8057ca1fe4214e3b7bdb19d1b90568801c92511ee4c44fb", func := "loop.example/g03016/laws.FnExactSamePart", spec := "fnExactSamePart", apart := false }
def FnExactSamePartSaid : Prop := fnExactSamePartRow.holds Try.pinned (OpenSpec.ofChange fnExactSamePartSpec)

/-- ITS FALSE NEIGHBOUR: 'it returns false'. Refute it at one input. -/
def fnExactSamePartWrong : ChangeSpec := { name := "fnExactSamePart", fn := fun _ => fun
  | [d1, d2] => { results := [.lit (.bool false)], args := [d1, d2] }
  | _ => none }
def FnExactSamePartWrongFalsely : Prop := fnExactSamePartRow.holds Try.pinned (OpenSpec.ofChange fnExactSamePartWrong)

/-- 'laws.FnExactFaceOf': WHATEVER THE INPUT: true; the input reads as it did. -/
def fnExactFaceOfSpec : ChangeSpec := { name := "fnExactFaceOf", fn := fun _ => fun
  | [d] => { results := [.lit (.bool true)], args := [d] }
  | _ => none }
def fnExactFaceOfRow : OpenClaim := { program := "ytajoafjkgifblaa", sum := "c152920fb1c93b42f8057ca1fe4214e3b7bdb19d1b90568801c92511ee4c44fb", func := "loop.example/g03016/laws.FnExactFaceOf", spec := "fnExactFaceOf", apart := false }
def FnExactFaceOfSaid : Prop := fnExactFaceOfRow.holds Try.pinned (OpenSpec.ofChange fnExactFaceOfSpec)

/-- ITS FALSE NEIGHBOUR: 'it returns false'. Refute it at one input. -/
def fnExactFaceOfWrong : ChangeSpec := { name := "fnExactFaceOf", fn := fun _ => fun
  | [d] => { results := [.lit (.bool false)], args := [d] }
  | _ => none }
def FnExactFaceOfWrongFalsely : Prop := fnExactFaceOfRow.holds Try.pinned (OpenSpec.ofChange fnExactFaceOfWrong)

/-- 'laws.FnExactRecipeOf': WHATEVER THE INPUT: true; the input reads as it did. -/
def fnExactRecipeOfSpec : ChangeSpec := { name := "fnExactRecipeOf", fn := fun _ => fun
  | [d] => { results := [.lit (.bool true)], args := [d] }
  | _ => none }
def fnExactRecipeOfRow : OpenClaim := { program := "ytajoafjkgifblaa", sum := "c152920fb1c93b42f8057ca1fe4214e3b7bdb19d1b90568801c92511ee4c44fb", func := "loop.example/g03016/laws.FnExactRecipeOf", spec := "fnExactRecipeOf", apart := false }
def FnExactRecipeOfSaid : Prop := fnExactRecipeOfRow.holds Try.pinned (OpenSpec.ofChange fnExactRecipeOfSpec)

/-- ITS FALSE NEIGHBOUR: 'it returns false'. Refute it at one input. -/
def fnExactRecipeOfWrong : ChangeSpec := { name := "fnExactRecipeOf", fn := fun _ => fun
  | [d] => { results := [.lit (.bool false)], args := [d] }
  | _ => none }
def FnExactRecipeOfWrongFalsely : Prop := fnExactRecipeOfRow.holds Try.pinned (OpenSpec.ofChange fnExactRecipeOfWrong)

/-- 'laws.FnExactIsPart': WHATEVER THE INPUT: true; the input reads as it did. -/
def fnExactIsPartSpec : ChangeSpec := { name := "fnExactIsPart", fn := fun _ => fun
  | [d] => { results := [.lit (.bool true)], args := [d] }
  | _ => none }
def fnExactIsPartRow : OpenClaim := { program := "ytajoafjkgifblaa", sum := "c152920fb1c93b42f8057ca1fe4214e3b7bdb19d1b90568801c92511ee4c44fb", func := "loop.example/g03016/laws.FnExactIsPart", spec := "fnExactIsPart", apart := false }
def FnExactIsPartSaid : Prop := fnExactIsPartRow.holds Try.pinned (OpenSpec.ofChange fnExactIsPartSpec)

/-- ITS FALSE NEIGHBOUR: 'it returns false'. Refute it at one input. -/
def fnExactIsPartWrong : ChangeSpec := { name := "fnExactIsPart", fn := fun _ => fun
  | [d] => { results := [.lit (.bool false)], args := [d] }
  | _ => none }
def FnExactIsPartWrongFalsely : Prop := fnExactIsPartRow.holds Try.pinned (OpenSpec.ofChange fnExactIsPartWrong)

/- THE SECOND FORM. 'bulk': how many values and letters a reading holds, each counted each time it is reached (what is shared counts as often as it is met; a slice's spare places count too). A statement '..UptoSaid' is the law's where the arguments, and the package variables that the reading takes, are together of bulk at most 1048576: NARROWER than '..Said'. Prove '..Said' where nothing that the law and all that it calls make is longer than what came in: it says more and counts as full. Else prove '..UptoSaid'. A law counts once. -/
mutual
def uptoBulk {H : Type} : DataW H → Nat
  | .lit (.string bytes) => bytes.length + 1
  | .lit _ => 1
  | .nil => 1
  | .ptr d => uptoBulk d + 1
  | .slice elems spare => uptoBulkAll elems + uptoBulkAll spare + 1
  | .agg parts => uptoBulkAll parts + 1
  | .iface _ d => uptoBulk d + 1
  | .map entries => uptoBulkEntries entries + 1
  | .held _ => 1
def uptoBulkAll {H : Type} : List (DataW H) → Nat
  | [] => 0
  | d :: r => uptoBulk d + uptoBulkAll r
def uptoBulkEntries {H : Type} : List (Lit × DataW H) → Nat
  | [] => 0
  | x :: r => uptoBulkEntry x + uptoBulkEntries r
def uptoBulkEntry {H : Type} : Lit × DataW H → Nat
  | (.string bytes, d) => bytes.length + uptoBulk d + 1
  | (_, d) => uptoBulk d + 1
 end
def uptoSmall : (H : Type) → List (DataW H) → Bool := fun _ ds => decide (uptoBulkAll ds ≤ 1048576)
def OpenSpec.upto (s : _root_.Go.ChangeSpec) : _root_.Go.OpenSpec := { _root_.Go.OpenSpec.ofChange s with cond := some uptoSmall }

/-- 'laws.FnExactIsCells', WHERE WHAT IT READS IS OF BULK AT MOST 1048576: true; the input reads as it did. -/
def fnExactIsCellsUptoRow : OpenClaim := { program := "ytajoafjkgifblaa", sum := "c152920fb1c93b42f8057ca1fe4214e3b7bdb19d1b90568801c92511ee4c44fb", func := "loop.example/g03016/laws.FnExactIsCells", spec := "fnExactIsCells", apart := false, narrowed := true }
def FnExactIsCellsUptoSaid : Prop := fnExactIsCellsUptoRow.holds Try.pinned (OpenSpec.upto fnExactIsCellsSpec)

/-- 'laws.FnExactSameCore', WHERE WHAT IT READS IS OF BULK AT MOST 1048576: true; the input reads as it did. -/
def fnExactSameCoreUptoRow : OpenClaim := { program := "ytajoafjkgifblaa", sum := "c152920fb1c93b42f8057ca1fe4214e3b7bdb19d1b90568801c92511ee4c44fb", func := "loop.example/g03016/laws.FnExactSameCore", spec := "fnExactSameCore", apart := false, narrowed := true }
def FnExactSameCoreUptoSaid : Prop := fnExactSameCoreUptoRow.holds Try.pinned (OpenSpec.upto fnExactSameCoreSpec)

/-- 'laws.FnExactIsCore', WHERE WHAT IT READS IS OF BULK AT MOST 1048576: true; the input reads as it did. -/
def fnExactIsCoreUptoRow : OpenClaim := { program := "ytajoafjkgifblaa", sum := "c152920fb1c93b42f8057ca1fe4214e3b7bdb19d1b90568801c92511ee4c44fb", func := "loop.example/g03016/laws.FnExactIsCore", spec := "fnExactIsCore", apart := false, narrowed := true }
def FnExactIsCoreUptoSaid : Prop := fnExactIsCoreUptoRow.holds Try.pinned (OpenSpec.upto fnExactIsCoreSpec)

/-- 'laws.FnExactNewPart', WHERE WHAT IT READS IS OF BULK AT MOST 1048576: true; the input reads as it did. -/
def fnExactNewPartUptoRow : OpenClaim := { program := "ytajoafjkgifblaa", sum := "c152920fb1c93b42f8057ca1fe4214e3b7bdb19d1b90568801c92511ee4c44fb", func := "loop.example/g03016/laws.FnExactNewPart", spec := "fnExactNewPart", apart := false, narrowed := true }
def FnExactNewPartUptoSaid : Prop := fnExactNewPartUptoRow.holds Try.pinned (OpenSpec.upto fnExactNewPartSpec)

/-- 'laws.FnExactSamePart', WHERE WHAT IT READS IS OF BULK AT MOST 1048576: true; the input reads as it did. -/
def fnExactSamePartUptoRow : OpenClaim := { program := "ytajoafjkgifblaa", sum := "c152920fb1c93b42f8057ca1fe4214e3b7bdb19d1b90568801c92511ee4c44fb", func := "loop.example/g03016/laws.FnExactSamePart", spec := "fnExactSamePart", apart := false, narrowed := true }
def FnExactSamePartUptoSaid : Prop := fnExactSamePartUptoRow.holds Try.pinned (OpenSpec.upto fnExactSamePartSpec)

/-- 'laws.FnExactFaceOf', WHERE WHAT IT READS IS OF BULK AT MOST 1048576: true; the input reads as it did. -/
def fnExactFaceOfUptoRow : OpenClaim := { program := "ytajoafjkgifblaa", sum := "c152920fb1c93b42f8057ca1fe4214e3b7bdb19d1b90568801c92511ee4c44fb", func := "loop.example/g03016/laws.FnExactFaceOf", spec := "fnExactFaceOf", apart := false, narrowed := true }
def FnExactFaceOfUptoSaid : Prop := fnExactFaceOfUptoRow.holds Try.pinned (OpenSpec.upto fnExactFaceOfSpec)

/-- 'laws.FnExactRecipeOf', WHERE WHAT IT READS IS OF BULK AT MOST 1048576: true; the input reads as it did. -/
def fnExactRecipeOfUptoRow : OpenClaim := { program := "ytajoafjkgifblaa", sum := "c152920fb1c93b42f8057ca1fe4214e3b7bdb19d1b90568801c92511ee4c44fb", func := "loop.example/g03016/laws.FnExactRecipeOf", spec := "fnExactRecipeOf", apart := false, narrowed := true }
def FnExactRecipeOfUptoSaid : Prop := fnExactRecipeOfUptoRow.holds Try.pinned (OpenSpec.upto fnExactRecipeOfSpec)

/-- 'laws.FnExactIsPart', WHERE WHAT IT READS IS OF BULK AT MOST 1048576: true; the input reads as it did. -/
def fnExactIsPartUptoRow : OpenClaim := { program := "ytajoafjkgifblaa", sum := "c152920fb1c93b42f8057ca1fe4214e3b7bdb19d1b90568801c92511ee4c44fb", func := "loop.example/g03016/laws.FnExactIsPart", spec := "fnExactIsPart", apart := false, narrowed := true }
def FnExactIsPartUptoSaid : Prop := fnExactIsPartUptoRow.holds Try.pinned (OpenSpec.upto fnExactIsPartSpec)

end Rows
end Go.Proofs.Ytajoafjkgifblaa
