/- What a region that draws leaves as it was: the cursor's block changes, all else below stays. -/
import Derived.Test.YtnabpefjcgehiaaInvG
import Derived.Test.YtnabpefjcgehiaaDrawPart
import Derived.Test.YtnabpefjcgehiaaPartLaws
namespace Go.Proofs.Ytnabpefjcgehiaa
open Go.ChangeShapes Go.WideShapes Go.ChangeAt Go.RowKit
set_option maxRecDepth 100000
def CurI (W : World) (g : Nat) (l : List UInt8) (w : World) : Prop := Cur w g l ∧ W.grownBy w (some g)
section
variable {W w w' : World} {g : Nat} {l : List UInt8}
theorem curI_drew (hc : Cur W g l) (hg : g < W.heap.size) : CurI W g l W.drew := ⟨hc.kept (Below.refl _ _).drew hg, grown_below (grown_refl _ _) (Below.refl _ _).drew⟩
theorem curI_lt (hI : CurI W g l w) (hg : g < W.heap.size) : g < w.heap.size := Nat.lt_of_lt_of_le hg hI.2.size
theorem curI_below (hI : CurI W g l w) (hg : g < W.heap.size) (hb : Below w.heap.size w w') : CurI W g l w' := ⟨hI.1.kept hb (curI_lt hI hg), grown_below hI.2 hb⟩
theorem curI_draw (hI : CurI W g l w) (hc' : Cur w' g l) (hgr : w.grownBy w' (some g)) : CurI W g l w' := ⟨hc', grown_trans hI.2 hgr⟩
theorem curI_store {g9 : Nat} (hI : CurI W g l w) (hg : g < W.heap.size) (hB : W.heap.size ≤ g9) (hgr : w.grownBy w' (some g9)) : CurI W g l w' := by
  have hs := hI.2.size
  refine ⟨hI.1.below (B := W.heap.size) ⟨hgr.os, hgr.tape, hgr.output, hgr.size, fun j hj => hgr.block j (by omega) (fun h9 => by have := Option.some.inj h9; omega)⟩ hg, hgr.os.trans hI.2.os, hgr.tape.trans hI.2.tape, hgr.output.trans hI.2.output, Nat.le_trans hs hgr.size, fun j hj hne => ?_⟩
  exact (hgr.block j (by omega) (fun h9 => by have := Option.some.inj h9; omega)).trans (hI.2.block j hj hne)
theorem moved_draw (hc : Cur w g l) (hc' : Cur w' g l) (hgr : w.grownBy w' (some g)) : Moved [69] w w' := by
  obtain ⟨_, _, _, _, h1, _⟩ := hc
  obtain ⟨_, _, _, _, h2, _⟩ := hc'
  exact .inr ⟨g, 69, by simp, _, _, h1, h2, rfl, hgr⟩
theorem grown_cell {r : Option Nat} (h : W.grownBy w r) {b : Nat} (hb : b < W.heap.size) (hne : some b ≠ r) (k : Nat) : w.cell? ⟨b, k, none⟩ = W.cell? ⟨b, k, none⟩ := World.cell?_of_block (h.block b hb hne)
theorem grown_row' {r : Option Nat} {o : Obj} (h : W.grownBy w r) {b : Nat} (hr : W.heap[b]? = some o) (hne : some b ≠ r) : w.heap[b]? = some o := (h.block b (Array.getElem?_eq_some_iff.1 hr).1 hne).trans hr
end
theorem six_of {cs : Array Value} (h : cs.size = 6) : ∃ a b c d e f, cs = #[a, b, c, d, e, f] := by
  obtain ⟨l⟩ := cs
  match l, h with
  | [a, b, c, d, e, f], _ => exact ⟨a, b, c, d, e, f, rfl⟩
/-- a block of six cells is written whole -/
theorem store6 {w : World} {g : Nat} {T : TypeId} {cs : Array Value} (a b c d e f : Value) (h : w.heap[g]? = some (.cells cs T (0, 0))) (hn : cs.size = 6) :
    ((((((w.setCell ⟨g, 0, none⟩ a).setCell ⟨g, 1, none⟩ b).setCell ⟨g, 2, none⟩ c).setCell ⟨g, 3, none⟩ d).setCell ⟨g, 4, none⟩ e).setCell ⟨g, 5, none⟩ f).heap[g]? = some (.cells #[a, b, c, d, e, f] T (0, 0)) ∧
    StoreOf w ((((((w.setCell ⟨g, 0, none⟩ a).setCell ⟨g, 1, none⟩ b).setCell ⟨g, 2, none⟩ c).setCell ⟨g, 3, none⟩ d).setCell ⟨g, 4, none⟩ e).setCell ⟨g, 5, none⟩ f) g T := by
  obtain ⟨l⟩ := cs
  match l, hn with
  | [x0, x1, x2, x3, x4, x5], _ =>
    have h0 := heap_setCell_same w g 0 _ _ a h
    have h1 := heap_setCell_same _ g 1 _ _ b h0
    have h2 := heap_setCell_same _ g 2 _ _ c h1
    have h3 := heap_setCell_same _ g 3 _ _ d h2
    have h4 := heap_setCell_same _ g 4 _ _ e h3
    have h5 := heap_setCell_same _ g 5 _ _ f h4
    exact ⟨h5, _, _, h, h5, rfl, grown_sets w g [(0, a), (1, b), (2, c), (3, d), (4, e), (5, f)] w ⟨rfl, rfl, rfl, Nat.le_refl _, fun _ _ _ => rfl⟩⟩
/-- what a drawn part is bounded by -/
def DrawnP (p : Pu.PartD) (n : Nat) : Prop := DrawnK p.core ∧ p.layers.length ≤ n
theorem drawn_wrap {p : Pu.PartD} {k : Nat} (h : DrawnP p k) (n : ByteArray) : DrawnP (Pu.wrapP p n) (k + 1) := by
  rw [Pu.wrapP]
  split
  · exact ⟨h.1, by simp; exact h.2⟩
  · exact ⟨h.1, Nat.le_succ_of_le h.2⟩
end Go.Proofs.Ytnabpefjcgehiaa
