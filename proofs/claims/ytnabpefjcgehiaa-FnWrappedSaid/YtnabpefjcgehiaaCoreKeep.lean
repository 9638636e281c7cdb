/- Contracts: what the reference's calls do to a core (l3Run, l3Keep). Written by wip/tools/coregen.py. -/
import Derived.Test.YtnabpefjcgehiaaM0
import Derived.Test.YtnabpefjcgehiaaM1
import Derived.Test.YtnabpefjcgehiaaCall
import Derived.BigRegion
import Derived.StillTailTactics
namespace Go.Proofs.Ytnabpefjcgehiaa
open Go.ChangeShapes Go.WideShapes Go.ChangeAt Go.RowKit
set_option maxRecDepth 100000
set_option linter.unusedVariables false
theorem own_ne {α : Type} {w : World} {base : Nat} {e t : TypeId} {size : Nat} {en : α → List Value} {v : Value} {l : List α} {cs : Array Value} {g' : Nat} (h : OwnL w base e size en v l) (hr : w.heap[g']? = some (.cells cs t (0, 0))) (hte : t ≠ e) : ∀ g, v.ownBlock = some g → g ≠ g' := by
  intro g hg he
  subst he
  obtain ⟨_, h2⟩ := h
  rcases h2 with ⟨rfl, _⟩ | ⟨g2, cap, cur, rfl, _, hb, _⟩
  · cases hg
  · have e1 : g2 = g := Option.some.inj hg
    subst e1
    rw [hr] at hb
    cases hb
    exact hte rfl
theorem own_drew {α : Type} {w : World} {base : Nat} {e : TypeId} {size : Nat} {en : α → List Value} {v : Value} {l : List α} (h : OwnL w base e size en v l) : OwnL w.drew base e size en v l := h
theorem row_on {w w' : World} {g : Nat} {o : Obj} (hb : Below w.heap.size w w') (h : w.heap[g]? = some o) : w'.heap[g]? = some o :=
  (hb.block g (Array.getElem?_eq_some_iff.1 h).1).trans h
theorem row5_set {w : World} {g : Nat} {t : TypeId} {a b c d e u : Value} (h : w.heap[g]? = some (.cells #[a, b, c, d, e] t (0, 0))) :
    (w.setCell ⟨g, 1, none⟩ u).heap[g]? = some (.cells #[a, u, c, d, e] t (0, 0)) ∧ (w.setCell ⟨g, 2, none⟩ u).heap[g]? = some (.cells #[a, b, u, d, e] t (0, 0)) ∧ (w.setCell ⟨g, 3, none⟩ u).heap[g]? = some (.cells #[a, b, c, u, e] t (0, 0)) ∧ (w.setCell ⟨g, 4, none⟩ u).heap[g]? = some (.cells #[a, b, c, d, u] t (0, 0)) :=
  ⟨heap_setCell_same w g 1 _ _ _ h, heap_setCell_same w g 2 _ _ _ h, heap_setCell_same w g 3 _ _ _ h, heap_setCell_same w g 4 _ _ _ h⟩
theorem row_past {w : World} {g g' j : Nat} {o : Obj} {u : Value} (h : w.heap[g]? = some o) (hne : g' ≠ g) : (w.setCell ⟨g', j, none⟩ u).heap[g]? = some o :=
  (Below.heap_setCell w ⟨g', j, none⟩ u g (fun e => hne e.symm)).trans h
/-- Heal, Stop, else Start -/
def Pu.runF (h st : Bool) (p : Pu.CoreD) : Pu.CoreD × Pu.ReplyD :=
  if h then (⟨p.kind, false, false, p.cells, p.count⟩, Pu.rp 0 0)
  else if st then (if p.on then (⟨p.kind, false, p.broken, p.cells, p.count⟩, Pu.rp 0 0) else (p, Pu.rp 2 0))
  else if p.on then (⟨p.kind, false, true, p.cells, p.count⟩, Pu.rp 3 0) else (⟨p.kind, true, p.broken, p.cells, Pu.upF p.count⟩, Pu.rp 0 0)
end Go.Proofs.Ytnabpefjcgehiaa
