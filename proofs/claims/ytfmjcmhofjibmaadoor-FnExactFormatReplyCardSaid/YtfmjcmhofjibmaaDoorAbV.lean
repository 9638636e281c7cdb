/- The program's own table of names, out of a condition that lists it. -/
import Derived.Test.YtfmjcmhofjibmaaDoorAb
import Derived.Test.YtfmjcmhofjibmaaDoorLaidR
namespace Go.Proofs.YtfmjcmhofjibmaaDoor
open Go.ChangeShapes Go.WideShapes Go.ChangeAt Go.RowKit
set_option maxRecDepth 100000
theorem ab_of_reads {w : World} (h : VarSays Tryd.prog w "loop.example/g03016/impl.abilityNames" Rows.laid_loop_example_g03016_impl_abilityNames) : AbVars w := by
  obtain ⟨g, t, cs, fuel, p, hg, ht, hv, hd⟩ := h
  obtain rfl := Option.some.inj (ab_g.symm.trans hg)
  obtain rfl := Option.some.inj (ab_t.symm.trans ht)
  exact ab_of hv hd
end Go.Proofs.YtfmjcmhofjibmaaDoor
