/- Contracts: faces. -/
import Derived.Test.YtnabpefjcgehiaaM0
namespace Go.Proofs.Ytnabpefjcgehiaa
open Go.ChangeShapes Go.WideShapes Go.ChangeAt Go.RowKit
set_option maxRecDepth 100000
theorem andNot_off : ∀ f : Nat, f < 64 → ∀ g : Nat, g < 64 → (bits .andNot .i64 (g : Int) (f : Int) == 0) = Pu.offTo f g 0 6 := by decide +kernel
theorem and_made : ∀ f : Nat, f < 64 → ∀ g : Nat, g < 64 → bits .and .i64 (f : Int) (g : Int) = (Pu.acc (Pu.hows 0) f g 6 : Int) := by decide +kernel
theorem or_made : ∀ f : Nat, f < 64 → ∀ g : Nat, g < 64 → bits .or .i64 (f : Int) (g : Int) = (Pu.acc (Pu.hows 1) f g 6 : Int) := by decide +kernel
theorem andNot_made : ∀ f : Nat, f < 64 → ∀ g : Nat, g < 64 → bits .andNot .i64 (f : Int) (g : Int) = (Pu.acc (Pu.hows 2) f g 6 : Int) := by decide +kernel
theorem faceB_nat {f : Int} (h : Pu.faceB f = true) : ∃ n : Nat, f = (n : Int) ∧ n < 64 := by
  simp [Pu.faceB] at h
  exact ⟨f.toNat, by omega, by omega⟩
theorem iIsFace_c (f : Int) (w : World) :
    Calls Try.prog 29 #[.int .i64 f] w fun e w' => e = .returned (.bool (Pu.faceB f)) ∧ w = w' := by
  go_enter Try.func29, Try.ntmps29
  go_wp2
  all_goals (go_ret; refine ⟨ret_bool ?_, rfl⟩; rw [Bool.eq_iff_iff]; simp [Pu.faceB]; omega)
theorem sIsFace_c (f : Int) (w : World) :
    Calls Try.prog 57 #[.int .i64 f] w fun e w' => e = .returned (.bool (Pu.faceB f)) ∧ w = w' := by
  go_enter Try.func57, Try.ntmps57
  go_wp2
  all_goals (go_ret; refine ⟨ret_bool ?_, rfl⟩; rw [Bool.eq_iff_iff]; simp [Pu.faceB]; omega)
theorem l2Has_c (f k : Int) (w : World) (h0 : 0 ≤ f) (hk0 : 0 ≤ k) (hk1 : k ≤ 63) :
    Calls Try.prog 58 #[.int .i64 f, .int .i64 k] w fun e w' => e = .returned (.bool (Pu.hasB f k)) ∧ w = w' := by
  go_enter Try.func58, Try.ntmps58
  go_wp2
  go_ret
  refine ⟨ret_bool ?_, rfl⟩
  have : 0 ≤ f / 2 ^ k.toNat := Int.ediv_nonneg h0 (Int.pow_nonneg (by omega))
  simp [Pu.hasB, Int.tmod_eq_emod_of_nonneg this]
theorem sOffers_c (f g : Int) (w : World) :
    Calls Try.prog 46 #[.int .i64 f, .int .i64 g] w fun e w' => e = .returned (.bool (Pu.offersB f g)) ∧ w = w' := by
  by_cases hf : Pu.faceB f = true
  · by_cases hg : Pu.faceB g = true
    · have f0 : 0 ≤ f := by simp [Pu.faceB] at hf; omega
      have g0 : 0 ≤ g := by simp [Pu.faceB] at hg; omega
      have HF : Hid (Pu.offersB f g = Pu.offTo f g 0 6) := by simp [Hid, Pu.offersB, hf, hg]
      go_enter Try.func46, Try.ntmps46
      go_wp2_with (go_at_call 57; refine (sIsFace_c _ _).mono ?_; rintro e w' ⟨rfl, rfl⟩)
      go_loop [5] (fun i => ∃ k : Nat, k ≤ 6 ∧ i = .int .i64 k ∧ Hid (Pu.offTo f g 0 6 = Pu.offTo f g k (6 - k))) (fun i => 6 - (intOf i).toNat)
      case atStart => exact ⟨0, by omega, rfl, rfl⟩
      case round =>
        obtain ⟨k, hk, rfl, HA⟩ := hrel
        go_wp2_with (go_at_call 58; refine (l2Has_c _ _ _ (by omega) (by omega) (by omega)).mono ?_; rintro e w' ⟨rfl, rfl⟩)
        all_goals first
          | (go_ret; refine ⟨ret_bool ?_, rfl⟩; rw [HF.out, HA.out, show 6 - k = (5 - k) + 1 by omega, Pu.offTo]; simp_all; done)
          | (go_ret; refine ⟨ret_bool ?_, rfl⟩; rw [HF.out, HA.out, show 6 - k = 0 by omega, Pu.offTo]; done)
          | (go_round
             case rel => exact ⟨k+1, by omega, by go_num, by rw [Hid, HA.out, show 6 - k = (6 - (k + 1)) + 1 by omega, Pu.offTo]; simp_all⟩
             case measure => simp [intOf]; omega)
    · go_enter Try.func46, Try.ntmps46
      go_wp2_with (go_at_call 57; refine (sIsFace_c _ _).mono ?_; rintro e w' ⟨rfl, rfl⟩)
      all_goals (go_ret; refine ⟨ret_bool ?_, rfl⟩; simp_all [Pu.offersB])
  · go_enter Try.func46, Try.ntmps46
    go_wp2_with (go_at_call 57; refine (sIsFace_c _ _).mono ?_; rintro e w' ⟨rfl, rfl⟩)
    all_goals (go_ret; refine ⟨ret_bool ?_, rfl⟩; simp_all [Pu.offersB])
theorem iOffers_c (f g : Int) (w : World) :
    Calls Try.prog 15 #[.int .i64 f, .int .i64 g] w fun e w' => e = .returned (.bool (Pu.offersB f g)) ∧ w = w' := by
  go_enter Try.func15, Try.ntmps15
  go_wp2_with (go_at_call 29; refine (iIsFace_c _ _).mono ?_; rintro e w' ⟨rfl, rfl⟩)
  · have hf : Pu.faceB f = true := by assumption
    have hg : Pu.faceB g = true := by assumption
    obtain ⟨n, rfl, hn⟩ := faceB_nat hf
    obtain ⟨m, rfl, hm⟩ := faceB_nat hg
    go_ret
    exact ⟨ret_bool (by rw [Pu.offersB, hf, hg]; exact andNot_off n hn m hm), rfl⟩
  all_goals (go_ret; refine ⟨ret_bool ?_, rfl⟩; simp_all [Pu.offersB])
end Go.Proofs.Ytnabpefjcgehiaa
