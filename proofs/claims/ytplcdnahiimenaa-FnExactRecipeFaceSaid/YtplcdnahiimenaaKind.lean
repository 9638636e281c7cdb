/- Contracts: kinds. -/
import Derived.Test.YtplcdnahiimenaaLib
namespace Go.Proofs.Ytplcdnahiimenaa
open Go.ChangeShapes Go.WideShapes Go.ChangeAt Go.RowKit
set_option maxRecDepth 100000
theorem iKindFace_c (s : ByteArray) (w : World) :
    Calls Try.prog 73 #[.string s] w fun e w' => e = .returned (.tuple #[.int .i64 (Pu.kindF s.toList), .bool (Pu.kindOk s.toList)]) ∧ w = w' := by
  go_enter Try.func73, Try.ntmps73
  go_wp2
  all_goals
    go_ret2
    exact ⟨ret_int_bool (by simp [Pu.kindF, Pu.kinds, Pu.look, *]) (by simp [Pu.kindOk, Pu.kinds, Pu.look, *]), rfl⟩
set_option maxHeartbeats 1000000 in
theorem sKindFace_c (s : ByteArray) (w : World) :
    Calls Try.prog 99 #[.string s] w fun e w' => e = .returned (.tuple #[.int .i64 (Pu.kindF s.toList), .bool (Pu.kindOk s.toList)]) ∧ Below w.heap.size w w' := by
  go_enter Try.func99, Try.ntmps99
  go_wp2
  go_loop [8] (fun i => ∃ k : Nat, k ≤ 8 ∧ i = .int .i64 k ∧ Hid (Pu.look Pu.kinds s.toList = Pu.look (Pu.kinds.drop k) s.toList)) (fun i => 8 - (intOf i).toNat)
  case atStart => exact ⟨0, by omega, rfl, rfl⟩
  case round =>
    obtain ⟨k, hk, rfl, HA⟩ := hrel
    by_cases hk8 : k < 8
    · obtain rfl | rfl | rfl | rfl | rfl | rfl | rfl | rfl : k = 0 ∨ k = 1 ∨ k = 2 ∨ k = 3 ∨ k = 4 ∨ k = 5 ∨ k = 6 ∨ k = 7 := by omega
      all_goals
        go_wp2
        all_goals first
          | (go_ret2
             have hx := Pu.kind_of (HA.out.trans (Pu.look_hit (by assumption)))
             exact ⟨ret_int_bool hx.1 hx.2, below_alloc (below_alloc (Below.refl _ _) _) _⟩)
          | (go_round
             case rel => first | exact ⟨1, by omega, rfl, HA.out.trans (Pu.look_miss (by assumption))⟩ | exact ⟨2, by omega, rfl, HA.out.trans (Pu.look_miss (by assumption))⟩ | exact ⟨3, by omega, rfl, HA.out.trans (Pu.look_miss (by assumption))⟩ | exact ⟨4, by omega, rfl, HA.out.trans (Pu.look_miss (by assumption))⟩ | exact ⟨5, by omega, rfl, HA.out.trans (Pu.look_miss (by assumption))⟩ | exact ⟨6, by omega, rfl, HA.out.trans (Pu.look_miss (by assumption))⟩ | exact ⟨7, by omega, rfl, HA.out.trans (Pu.look_miss (by assumption))⟩ | exact ⟨8, by omega, rfl, HA.out.trans (Pu.look_miss (by assumption))⟩
             case measure => simp [intOf])
    · obtain rfl : k = 8 := by omega
      go_wp2
      go_ret2
      have hx := Pu.kind_none HA.out
      exact ⟨ret_int_bool hx.1 hx.2, below_alloc (Below.refl _ _) _⟩
end Go.Proofs.Ytplcdnahiimenaa
