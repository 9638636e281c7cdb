/- Contracts: drawn odd numbers; the cursor kept. -/
import Derived.Test.YtabbgabdbkbjcaaDoorDraw
namespace Go.Proofs.YtabbgabdbkbjcaaDoor
open Go.ChangeShapes Go.WideShapes Go.ChangeAt Go.RowKit
set_option maxRecDepth 100000
theorem Cur.kept {w w' : World} {g : Nat} {l : List UInt8} (hc : Cur w g l) (hb : Below w.heap.size w w') (hg : g < w.heap.size) : Cur w' g l := hc.below hb hg
theorem grown_below {a w w' : World} {row : Option Nat} (h : a.grownBy w row) (hb : Below w.heap.size w w') : a.grownBy w' row :=
  ⟨hb.os.trans h.os, hb.tape.trans h.tape, hb.output.trans h.output, Nat.le_trans h.size hb.size, fun i hi hne => (hb.block i (Nat.lt_of_lt_of_le hi h.size)).trans (h.block i hi hne)⟩
end Go.Proofs.YtabbgabdbkbjcaaDoor
