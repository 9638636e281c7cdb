/- Contracts: cells. -/
import Derived.Test.YtpenhmglegmclaaMem
import Derived.Test.YtpenhmglegmclaaName
import Derived.Deep.QuietTactic
import Derived.BigQuiet
namespace Go.Proofs.Ytpenhmglegmclaa
open Go.ChangeShapes Go.WideShapes Go.ChangeAt Go.RowKit
theorem isNumber_c (n : Int) (w : World) :
    Calls Try.prog 77 #[.int .i64 n] w fun e w' => e = .returned (.bool (Pu.isNum n)) ∧ w = w' := by
  go_enter Try.func77, Try.ntmps77
  go_wp2
  all_goals (go_ret; refine ⟨ret_bool ?_, rfl⟩; rw [Bool.eq_iff_iff]; simp [Pu.isNum]; omega)
end Go.Proofs.Ytpenhmglegmclaa
