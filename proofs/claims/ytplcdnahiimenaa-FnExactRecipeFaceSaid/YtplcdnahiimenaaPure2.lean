/- Plain functions and plain laws: cores, parts, calls. -/
import Derived.Test.YtplcdnahiimenaaPure
namespace Go.Proofs.Ytplcdnahiimenaa.Pu
/-! ## Cores -/
def coreB (p : CoreD) : Bool :=
  kindOk p.kind.toList && cellsB p.cells && !(decide (0 < p.cells.length) && !hasB (kindF p.kind.toList) 1) && isNum p.count && !(p.on && p.broken) && (hasB (kindF p.kind.toList) 0 || (!p.on && !p.broken))
def cellKey (c : CellD) : List UInt8 × Int := (c.key.toList, c.val)
def coreKey (p : CoreD) : List UInt8 × Bool × Bool × List (List UInt8 × Int) × Int := (p.kind.toList, p.on, p.broken, p.cells.map cellKey, p.count)
/-- the bits of a kind's face -/
theorem kind_faces (s : List UInt8) : kindF s = 0 ∨ kindF s = 1 ∨ kindF s = 2 ∨ kindF s = 5 ∨ kindF s = 3 ∨ kindF s = 9 ∨ kindF s = 19 ∨ kindF s = 63 := by
  simp only [kindF, kinds, look]
  repeat' (split; · simp)
  simp
theorem kind_bd (s : List UInt8) : 0 ≤ kindF s ∧ kindF s ≤ 63 := by
  have := kind_faces s
  omega
def szCore (p : CoreD) (left : Int) : Int := if (p.kind.size + p.cells.length + tot (p.cells.map (·.key)) : Int) ≤ left then left - (p.kind.size + p.cells.length + tot (p.cells.map (·.key))) else -1
end Go.Proofs.Ytplcdnahiimenaa.Pu
