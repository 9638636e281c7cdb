/- Owned rows: apart from each other; worlds that differ within an interval of blocks. -/
import Derived.Test.YtabbgabdbkbjcaaDoorMem2
namespace Go.Proofs.YtabbgabdbkbjcaaDoor
open Go.ChangeShapes Go.WideShapes Go.ChangeAt Go.RowKit
set_option maxRecDepth 100000
/-- w' is w but for the blocks from B on and before C (and for new ones). -/
structure Within (B C : Nat) (w w' : World) : Prop where
  os : w'.os = w.os
  tape : w'.tape = w.tape
  output : w'.output = w.output
  size : w.heap.size ≤ w'.heap.size
  block : ∀ g, g < w.heap.size → (g < B ∨ C ≤ g) → w'.heap[g]? = w.heap[g]?
theorem Within.refl (B C : Nat) (w : World) : Within B C w w := ⟨rfl, rfl, rfl, Nat.le_refl _, fun _ _ _ => rfl⟩
theorem Within.trans {B C : Nat} {a b c : World} (h : Within B C a b) (k : Within B C b c) : Within B C a c :=
  ⟨k.os.trans h.os, k.tape.trans h.tape, k.output.trans h.output, Nat.le_trans h.size k.size, fun g hg hb => (k.block g (Nat.lt_of_lt_of_le hg h.size) hb).trans (h.block g hg hb)⟩
theorem Within.mono {B C B' C' : Nat} {a b : World} (h : Within B C a b) (hB : B' ≤ B) (hC : C ≤ C') : Within B' C' a b :=
  ⟨h.os, h.tape, h.output, h.size, fun g hg hb => h.block g hg (by omega)⟩
section
variable {α : Type} {w w' : World} {base : Nat} {e : TypeId} {size : Nat} {en : α → List Value} {v : Value} {l : List α}
theorem OwnL.lt (h : OwnL w base e size en v l) {g : Nat} (hg : v.ownBlock = some g) : base ≤ g ∧ g < w.heap.size := World.ownsRow.lt h g hg
theorem OwnL.apart {β : Type} {b' : Nat} {e' : TypeId} {size' : Nat} {en' : β → List Value} {v' : Value} {l' : List β} (h : OwnL w base e size en v l) (h' : OwnL w' b' e' size' en' v' l') (hb : w.heap.size ≤ b') :
    v.ownBlock = none ∨ v.ownBlock ≠ v'.ownBlock := by
  rcases hv : v.ownBlock with _ | g
  · exact .inl rfl
  · exact .inr fun e => by
      have h1 := (h.lt hv).2
      have h2 := (h'.lt e.symm).1
      omega
/-- an owned row behind a change within an interval that it does not touch -/
theorem OwnL.within {B C : Nat} (h : OwnL w base e size en v l) (hw : Within B C w w') (hv : ∀ g, v.ownBlock = some g → g < B ∨ C ≤ g) : OwnL w' base e size en v l := by
  obtain ⟨hl, h2⟩ := h
  refine ⟨hl, ?_⟩
  rcases h2 with h2 | ⟨g, cap, cur, rfl, hbs, hg, r⟩
  · exact .inl h2
  · refine .inr ⟨g, cap, cur, rfl, hbs, ?_, r⟩
    have : g < w.heap.size := by
      rcases Nat.lt_or_ge g w.heap.size with hlt | hge
      · exact hlt
      · rw [Array.getElem?_eq_none hge] at hg; cases hg
    rw [hw.block g this (hv g rfl)]
    exact hg
end
theorem Within.below {B C D : Nat} {w w' : World} (h : Within B C w w') (hD : D ≤ B) (hs : D ≤ w.heap.size) : Below D w w' :=
  ⟨h.os, h.tape, h.output, h.size, fun g hg => h.block g (by omega) (.inl (by omega))⟩
theorem Within.of {w w' : World} (h : Below w.heap.size w w') (B C : Nat) : Within B C w w' :=
  ⟨h.os, h.tape, h.output, h.size, fun g hg _ => h.block g hg⟩
end Go.Proofs.YtabbgabdbkbjcaaDoor
