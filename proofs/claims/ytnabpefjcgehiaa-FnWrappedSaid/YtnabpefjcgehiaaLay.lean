/- Contracts: adapters. -/
import Derived.Test.YtnabpefjcgehiaaM0
import Derived.RegionTactic
namespace Go.Proofs.Ytnabpefjcgehiaa
open Go.ChangeShapes Go.WideShapes Go.ChangeAt Go.RowKit
set_option maxRecDepth 100000
set_option maxHeartbeats 1000000 in
theorem iLayerFaces_c (s : ByteArray) (w : World) :
    Calls Try.prog 26 #[.string s] w fun e w' => e = .returned (.tuple #[.int .i64 (Pu.layN s.toList), .int .i64 (Pu.layG s.toList), .bool (Pu.layOk s.toList)]) ∧ w = w' := by
  rcases hk : (s.toList == [107, 101, 101, 112, 115]) with _ | _
  all_goals
    go_enter Try.func26, Try.ntmps26
    go_wp2
    all_goals
      go_ret3
      go_tidy
      exact ⟨ret_int2_bool (by simp_all [Pu.layN, Pu.layers, Pu.look]) (by simp_all [Pu.layG, Pu.layers, Pu.look]) (by simp_all [Pu.layOk, Pu.layers, Pu.look]), rfl⟩
set_option maxHeartbeats 4000000 in
theorem l4Row_c (s : ByteArray) (w : World) :
    Calls Try.prog 56 #[.string s] w fun e w' => e = .returned (.tuple #[.int .i64 (Pu.layN s.toList), .int .i64 (Pu.layG s.toList), .bool (Pu.layOk s.toList)]) ∧ Below w.heap.size w w' := by
  go_enter Try.func56, Try.ntmps56
  go_wp2
  go_loop [11] (fun i => ∃ k : Nat, k ≤ 9 ∧ i = .int .i64 k ∧ Hid (Pu.look Pu.layers s.toList = Pu.look (Pu.layers.drop k) s.toList)) (fun i => 9 - (intOf i).toNat)
  case atStart => exact ⟨0, by omega, rfl, rfl⟩
  case round =>
    obtain ⟨k, hk, rfl, HA⟩ := hrel
    by_cases hk8 : k < 9
    · obtain rfl | rfl | rfl | rfl | rfl | rfl | rfl | rfl | rfl : k = 0 ∨ k = 1 ∨ k = 2 ∨ k = 3 ∨ k = 4 ∨ k = 5 ∨ k = 6 ∨ k = 7 ∨ k = 8 := by omega
      all_goals
        go_wp2
        any_goals go_region
        all_goals go_wp2
        all_goals first
          | (go_ret3
             have hx := Pu.lay_of (HA.out.trans (Pu.look_hit (by assumption)))
             exact ⟨ret_int2_bool hx.1 hx.2.1 hx.2.2, (below_alloc (below_alloc (below_alloc (Below.refl _ _) _) _) _).drew⟩)
          | (go_round
             case rel => first | exact ⟨1, by omega, rfl, HA.out.trans (Pu.look_miss (by assumption))⟩ | exact ⟨2, by omega, rfl, HA.out.trans (Pu.look_miss (by assumption))⟩ | exact ⟨3, by omega, rfl, HA.out.trans (Pu.look_miss (by assumption))⟩ | exact ⟨4, by omega, rfl, HA.out.trans (Pu.look_miss (by assumption))⟩ | exact ⟨5, by omega, rfl, HA.out.trans (Pu.look_miss (by assumption))⟩ | exact ⟨6, by omega, rfl, HA.out.trans (Pu.look_miss (by assumption))⟩ | exact ⟨7, by omega, rfl, HA.out.trans (Pu.look_miss (by assumption))⟩ | exact ⟨8, by omega, rfl, HA.out.trans (Pu.look_miss (by assumption))⟩ | exact ⟨9, by omega, rfl, HA.out.trans (Pu.look_miss (by assumption))⟩
             case measure => simp [intOf])
    · obtain rfl : k = 9 := by omega
      go_wp2
      go_ret3
      have hx := Pu.lay_none HA.out
      exact ⟨ret_int2_bool hx.1 hx.2.1 hx.2.2, below_alloc (Below.refl _ _) _⟩
theorem iLayerGives_c (s : ByteArray) (w : World) :
    Calls Try.prog 18 #[.string s] w fun e w' => e = .returned (.tuple #[.int .i64 (Pu.layG s.toList), .bool (Pu.layOk s.toList)]) ∧ w = w' := by
  go_enter Try.func18, Try.ntmps18
  go_wp2_with (go_at_call 26; refine (iLayerFaces_c _ _).mono ?_; rintro e w' ⟨rfl, rfl⟩)
  go_ret2
  exact ⟨rfl, rfl⟩
theorem sLayerNeeds_c (s : ByteArray) (w : World) :
    Calls Try.prog 45 #[.string s] w fun e w' => e = .returned (.tuple #[.int .i64 (Pu.layN s.toList), .bool (Pu.layOk s.toList)]) ∧ Below w.heap.size w w' := by
  go_enter Try.func45, Try.ntmps45
  go_wp2_with (go_at_call 56; refine (l4Row_c _ _).mono ?_; rintro e w1 ⟨rfl, hb1⟩)
  go_ret2
  exact ⟨rfl, hb1⟩
theorem iLayerNeeds_c (s : ByteArray) (w : World) :
    Calls Try.prog 14 #[.string s] w fun e w' => e = .returned (.tuple #[.int .i64 (Pu.layN s.toList), .bool (Pu.layOk s.toList)]) ∧ w = w' := by
  go_enter Try.func14, Try.ntmps14
  go_wp2_with (go_at_call 26; refine (iLayerFaces_c _ _).mono ?_; rintro e w' ⟨rfl, rfl⟩)
  go_ret2
  exact ⟨rfl, rfl⟩
end Go.Proofs.Ytnabpefjcgehiaa
