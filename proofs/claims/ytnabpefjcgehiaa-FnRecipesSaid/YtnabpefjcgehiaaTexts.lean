/- Contract of the laws' own helper: two lists of texts that are the same. -/
import Derived.Test.YtnabpefjcgehiaaM0
import Derived.Deep.QuietTactic
import Derived.BigQuiet
import Derived.Deep.RegionHeld3
namespace Go.Proofs.Ytnabpefjcgehiaa
open Go.ChangeShapes Go.WideShapes Go.ChangeAt Go.RowKit
set_option maxRecDepth 100000
theorem texts_c (a b : Value) (l : List ByteArray) (w : World) (ha : RdStr w a l) (hb : RdStr w b l) :
    Calls Try.prog 11 #[a, b] w fun e w' => e = .returned (.bool true) ∧ Below w.heap.size w w' := by
  obtain ⟨A, c, rfl, _, hcm, hA⟩ := ha.open_
  obtain ⟨B, d, rfl, _, hdm, hB⟩ := hb.open_
  have HA := hide hA
  have HB := hide hB
  clear hA hB ha hb
  have hln : l.length ≤ 9223372036854775807 := by omega
  go_enter Try.func11, Try.ntmps11
  go_wp2
  go_loopw [5] (fun i wr => ∃ k : Nat, k ≤ l.length ∧ i = .int .i64 k ∧ Below w.heap.size w wr) (fun i _ => l.length - (intOf i).toNat)
  case atStart => exact ⟨0, by omega, rfl, Below.refl _ _⟩
  case round =>
    obtain ⟨k, hk, rfl, hb⟩ := hrel
    by_cases hlt : k < l.length
    · obtain ⟨g, o, rfl, hg, HC⟩ := HA.out.at_ (by omega)
      obtain ⟨g', o', rfl, hg', HC'⟩ := HB.out.at_ (by omega)
      obtain ⟨x, HX, h0⟩ := str_get HC hb hlt
      obtain ⟨y, HY, h1⟩ := str_get HC' hb hlt
      obtain rfl : x = y := Option.some.inj (HX.out.symm.trans HY.out)
      have hxy : (x.toList == x.toList) = true := by simp
      go_wp2_with fail
      go_quiet (fail)
      go_wp2
      go_roundw
      case rel => exact ⟨k + 1, by omega, by go_num, below_drewN hb _⟩
      case measure => simp [intOf]; omega
    · go_wp2
      go_ret
      exact ⟨rfl, hb⟩
end Go.Proofs.Ytnabpefjcgehiaa
