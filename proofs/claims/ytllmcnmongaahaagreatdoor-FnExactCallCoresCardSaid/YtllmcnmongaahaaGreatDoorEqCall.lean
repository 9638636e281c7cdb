/- Contract of the laws' own helper: two calls that are the same. -/
import Derived.Test.YtllmcnmongaahaaGreatDoorCall
import Derived.Test.YtllmcnmongaahaaGreatDoorM0
namespace Go.Proofs.YtllmcnmongaahaaGreatDoor
open Go.ChangeShapes Go.WideShapes Go.ChangeAt Go.RowKit
set_option maxRecDepth 100000
theorem eqCall_c (x : Pu.CallD) (w : World) :
    Calls Tryz.prog 63 #[callV x, callV x] w fun e w' => e = .returned (.bool true) ∧ Below w.heap.size w w' := by
  have h1 : (x.method.toList == x.method.toList) = true := by simp
  have h2 : (x.key.toList == x.key.toList) = true := by simp
  have h3 : (x.text.toList == x.text.toList) = true := by simp
  unfold callV
  go_enter Tryz.func63, Tryz.ntmps63
  go_wp2
  go_ret
  exact ⟨rfl, below_alloc (below_alloc (Below.refl _ _) _) _⟩
end Go.Proofs.YtllmcnmongaahaaGreatDoor
