/- Contracts: faces. -/
import Derived.Test.YtfmjcmhofjibmaaDoorLib
namespace Go.Proofs.YtfmjcmhofjibmaaDoor
open Go.ChangeShapes Go.WideShapes Go.ChangeAt Go.RowKit
set_option maxRecDepth 100000
theorem andNot_off : ∀ f : Nat, f < 64 → ∀ g : Nat, g < 64 → (bits .andNot .i64 (g : Int) (f : Int) == 0) = Pu.offTo f g 0 6 := by decide +kernel
theorem and_made : ∀ f : Nat, f < 64 → ∀ g : Nat, g < 64 → bits .and .i64 (f : Int) (g : Int) = (Pu.acc (Pu.hows 0) f g 6 : Int) := by decide +kernel
theorem or_made : ∀ f : Nat, f < 64 → ∀ g : Nat, g < 64 → bits .or .i64 (f : Int) (g : Int) = (Pu.acc (Pu.hows 1) f g 6 : Int) := by decide +kernel
theorem andNot_made : ∀ f : Nat, f < 64 → ∀ g : Nat, g < 64 → bits .andNot .i64 (f : Int) (g : Int) = (Pu.acc (Pu.hows 2) f g 6 : Int) := by decide +kernel
theorem faceB_nat {f : Int} (h : Pu.faceB f = true) : ∃ n : Nat, f = (n : Int) ∧ n < 64 := by
  simp [Pu.faceB] at h
  exact ⟨f.toNat, by omega, by omega⟩
theorem iIsFace_c (f : Int) (w : World) :
    Calls Tryd.prog 56 #[.int .i64 f] w fun e w' => e = .returned (.bool (Pu.faceB f)) ∧ w = w' := by
  go_enter Tryd.func56, Tryd.ntmps56
  go_wp2
  all_goals (go_ret; refine ⟨ret_bool ?_, rfl⟩; rw [Bool.eq_iff_iff]; simp [Pu.faceB]; omega)
theorem sIsFace_c (f : Int) (w : World) :
    Calls Tryd.prog 53 #[.int .i64 f] w fun e w' => e = .returned (.bool (Pu.faceB f)) ∧ w = w' := by
  go_enter Tryd.func53, Tryd.ntmps53
  go_wp2
  all_goals (go_ret; refine ⟨ret_bool ?_, rfl⟩; rw [Bool.eq_iff_iff]; simp [Pu.faceB]; omega)
theorem l2Has_c (f k : Int) (w : World) (h0 : 0 ≤ f) (hk0 : 0 ≤ k) (hk1 : k ≤ 63) :
    Calls Tryd.prog 54 #[.int .i64 f, .int .i64 k] w fun e w' => e = .returned (.bool (Pu.hasB f k)) ∧ w = w' := by
  go_enter Tryd.func54, Tryd.ntmps54
  go_wp2
  go_ret
  refine ⟨ret_bool ?_, rfl⟩
  have : 0 ≤ f / 2 ^ k.toNat := Int.ediv_nonneg h0 (Int.pow_nonneg (by omega))
  simp [Pu.hasB, Int.tmod_eq_emod_of_nonneg this]
end Go.Proofs.YtfmjcmhofjibmaaDoor
