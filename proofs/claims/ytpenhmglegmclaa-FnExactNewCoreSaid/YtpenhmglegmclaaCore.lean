/- Contracts: cores. -/
import Derived.Test.YtpenhmglegmclaaCells
import Derived.Test.YtpenhmglegmclaaCellH
import Derived.Test.YtpenhmglegmclaaKind
import Derived.Test.YtpenhmglegmclaaPure2
import Derived.Test.YtpenhmglegmclaaFace
import Derived.Test.YtpenhmglegmclaaMem2
import Derived.Deep.RegionHeld3
namespace Go.Proofs.Ytpenhmglegmclaa
open Go.ChangeShapes Go.WideShapes Go.ChangeAt Go.RowKit
def coreV (p : Pu.CoreD) (s : Value) : Value := .agg #[.string p.kind, .bool p.on, .bool p.broken, s, .int .i64 p.count]
def CoreD.wf (p : Pu.CoreD) : Prop := p.kind.size ≤ maxLen ∧ (Lit.int .i64 p.count).wf = true
def RdCore (w : World) (v : Value) (p : Pu.CoreD) : Prop := CoreD.wf p ∧ ∃ s, v = coreV p s ∧ RdCells w s p.cells
end Go.Proofs.Ytpenhmglegmclaa
