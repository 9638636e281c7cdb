/- Owned rows over stores elsewhere. -/
import Derived.Test.YtabbgabdbkbjcaaDoorMem
namespace Go.Proofs.YtabbgabdbkbjcaaDoor
open Go.ChangeShapes Go.WideShapes Go.ChangeAt Go.RowKit
set_option maxRecDepth 100000
theorem OwnL.set {α : Type} {w : World} {base : Nat} {e : TypeId} {size : Nat} {en : α → List Value} {v : Value} {l : List α} (h : OwnL w base e size en v l) {a : Addr} (ha : a.block < base) (u : Value) : OwnL (w.setCell a u) base e size en v l := by
  obtain ⟨hl, h2⟩ := h
  refine ⟨hl, ?_⟩
  rcases h2 with h2 | ⟨g, cap, cur, hv, hbs, hg, r⟩
  · exact .inl h2
  · exact .inr ⟨g, cap, cur, hv, hbs, by rw [Below.heap_setCell _ _ _ _ (by omega)]; exact hg, r⟩
/-- the same by the place of the row itself -/
theorem OwnL.set' {α : Type} {w : World} {base : Nat} {e : TypeId} {size : Nat} {en : α → List Value} {v : Value} {l : List α} (h : OwnL w base e size en v l) {a : Addr} (ha : ∀ g, v.ownBlock = some g → a.block ≠ g) (u : Value) : OwnL (w.setCell a u) base e size en v l := by
  obtain ⟨hl, h2⟩ := h
  refine ⟨hl, ?_⟩
  rcases h2 with h2 | ⟨g, cap, cur, rfl, hbs, hg, r⟩
  · exact .inl h2
  · exact .inr ⟨g, cap, cur, rfl, hbs, by rw [Below.heap_setCell _ _ _ _ (fun e => ha g rfl e.symm)]; exact hg, r⟩
end Go.Proofs.YtabbgabdbkbjcaaDoor
