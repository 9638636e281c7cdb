/- Contracts: drawn odd numbers; the cursor kept. -/
import Derived.Test.YtfmjcmhofjibmaaDoorDraw
namespace Go.Proofs.YtfmjcmhofjibmaaDoor
open Go.ChangeShapes Go.WideShapes Go.ChangeAt Go.RowKit
set_option maxRecDepth 100000
theorem Cur.kept {w w' : World} {g : Nat} {l : List UInt8} (hc : Cur w g l) (hb : Below w.heap.size w w') (hg : g < w.heap.size) : Cur w' g l := hc.below hb hg
theorem grown_below {a w w' : World} {row : Option Nat} (h : a.grownBy w row) (hb : Below w.heap.size w w') : a.grownBy w' row :=
  ⟨hb.os.trans h.os, hb.tape.trans h.tape, hb.output.trans h.output, Nat.le_trans h.size hb.size, fun i hi hne => (hb.block i (Nat.lt_of_lt_of_le hi h.size)).trans (h.block i hi hne)⟩
theorem l1Odd_c (g : Nat) (l : List UInt8) (w : World) (hc : Cur w g l) (hgs : g < w.heap.size) :
    Calls Tryd.prog 45 #[.pointer (some ⟨g, 0, none⟩)] w fun e w' => ∃ x : Int, e = .returned (.int .i64 x) ∧ (Lit.int .i64 x).wf = true ∧ Cur w' g l ∧ w.grownBy w' (some g) := by
  go_enter Tryd.func45, Tryd.ntmps45
  go_wp2_with fail
  refine (l1Int_c _ _ _ [-1, 0, 1, 2, 3, 4, 5, 6, 7, 63, 64, 99, 100, 999, 1000, 9223372036854775807, -9223372036854775808] _ (hc.alloc hgs _) (rd_new_int (e := 3) _ rfl (by decide) (heap_new rfl)) (by decide) (by decide) (by intro a c n h; cases h; show w.heap.size ≠ g; omega)).mono ?_; rintro e w2 ⟨x, rfl, hx, hc2, hg2⟩
  go_wp2_with fail
  go_ret
  refine ⟨x, rfl, ?_, hc2, grown_trans (grown_alloc (grown_refl _ _) _) hg2⟩
  exact (show ∀ y ∈ ([-1, 0, 1, 2, 3, 4, 5, 6, 7, 63, 64, 99, 100, 999, 1000, 9223372036854775807, -9223372036854775808] : List Int), (Lit.int .i64 y).wf = true by decide) x hx
end Go.Proofs.YtfmjcmhofjibmaaDoor
