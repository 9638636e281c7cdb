/- Contracts of the laws' own helpers: replies. -/
import Derived.Test.YtplcdnahiimenaaMem2
namespace Go.Proofs.Ytplcdnahiimenaa
open Go.ChangeShapes Go.WideShapes Go.ChangeAt Go.RowKit
set_option maxRecDepth 100000
def replyV (r : Pu.ReplyD) : Value := .agg #[.int .i64 r.code, .int .i64 r.value, .string r.text, .int .i64 r.want, .int .i64 r.had]
theorem eqReply_c (r : Pu.ReplyD) (w : World) :
    Calls Try.prog 35 #[replyV r, replyV r] w fun e w' => e = .returned (.bool true) ∧ Below w.heap.size w w' := by
  have hk' : (r.text.toList == r.text.toList) = true := by simp
  unfold replyV
  go_enter Try.func35, Try.ntmps35
  go_wp2
  go_ret
  exact ⟨rfl, below_alloc (below_alloc (Below.refl _ _) _) _⟩
end Go.Proofs.Ytplcdnahiimenaa
