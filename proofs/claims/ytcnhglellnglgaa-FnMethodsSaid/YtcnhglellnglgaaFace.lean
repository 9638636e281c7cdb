/- Contracts: faces. -/
import Derived.Test.YtcnhglellnglgaaLib
namespace Go.Proofs.Ytcnhglellnglgaa
open Go.ChangeShapes Go.WideShapes Go.ChangeAt Go.RowKit
set_option maxRecDepth 100000
theorem andNot_off : ∀ f : Nat, f < 64 → ∀ g : Nat, g < 64 → (bits .andNot .i64 (g : Int) (f : Int) == 0) = Pu.offTo f g 0 6 := by decide +kernel
theorem and_made : ∀ f : Nat, f < 64 → ∀ g : Nat, g < 64 → bits .and .i64 (f : Int) (g : Int) = (Pu.acc (Pu.hows 0) f g 6 : Int) := by decide +kernel
theorem or_made : ∀ f : Nat, f < 64 → ∀ g : Nat, g < 64 → bits .or .i64 (f : Int) (g : Int) = (Pu.acc (Pu.hows 1) f g 6 : Int) := by decide +kernel
theorem andNot_made : ∀ f : Nat, f < 64 → ∀ g : Nat, g < 64 → bits .andNot .i64 (f : Int) (g : Int) = (Pu.acc (Pu.hows 2) f g 6 : Int) := by decide +kernel
theorem faceB_nat {f : Int} (h : Pu.faceB f = true) : ∃ n : Nat, f = (n : Int) ∧ n < 64 := by
  simp [Pu.faceB] at h
  exact ⟨f.toNat, by omega, by omega⟩
theorem iIsFace_c (f : Int) (w : World) :
    Calls Try.prog 17 #[.int .i64 f] w fun e w' => e = .returned (.bool (Pu.faceB f)) ∧ w = w' := by
  go_enter Try.func17, Try.ntmps17
  go_wp2
  all_goals (go_ret; refine ⟨ret_bool ?_, rfl⟩; rw [Bool.eq_iff_iff]; simp [Pu.faceB]; omega)
theorem sIsFace_c (f : Int) (w : World) :
    Calls Try.prog 18 #[.int .i64 f] w fun e w' => e = .returned (.bool (Pu.faceB f)) ∧ w = w' := by
  go_enter Try.func18, Try.ntmps18
  go_wp2
  all_goals (go_ret; refine ⟨ret_bool ?_, rfl⟩; rw [Bool.eq_iff_iff]; simp [Pu.faceB]; omega)
theorem l2Has_c (f k : Int) (w : World) (h0 : 0 ≤ f) (hk0 : 0 ≤ k) (hk1 : k ≤ 63) :
    Calls Try.prog 26 #[.int .i64 f, .int .i64 k] w fun e w' => e = .returned (.bool (Pu.hasB f k)) ∧ w = w' := by
  go_enter Try.func26, Try.ntmps26
  go_wp2
  go_ret
  refine ⟨ret_bool ?_, rfl⟩
  have : 0 ≤ f / 2 ^ k.toNat := Int.ediv_nonneg h0 (Int.pow_nonneg (by omega))
  simp [Pu.hasB, Int.tmod_eq_emod_of_nonneg this]
theorem iOffers_c (f g : Int) (w : World) :
    Calls Try.prog 21 #[.int .i64 f, .int .i64 g] w fun e w' => e = .returned (.bool (Pu.offersB f g)) ∧ w = w' := by
  go_enter Try.func21, Try.ntmps21
  go_wp2_with (go_at_call 17; refine (iIsFace_c _ _).mono ?_; rintro e w' ⟨rfl, rfl⟩)
  · have hf : Pu.faceB f = true := by assumption
    have hg : Pu.faceB g = true := by assumption
    obtain ⟨n, rfl, hn⟩ := faceB_nat hf
    obtain ⟨m, rfl, hm⟩ := faceB_nat hg
    go_ret
    exact ⟨ret_bool (by rw [Pu.offersB, hf, hg]; exact andNot_off n hn m hm), rfl⟩
  all_goals (go_ret; refine ⟨ret_bool ?_, rfl⟩; simp_all [Pu.offersB])
theorem l2Made_c (a b how : Int) (w : World) (h0 : 0 ≤ how) (h2 : how ≤ 2) :
    Calls Try.prog 38 #[.int .i64 a, .int .i64 b, .int .i64 how] w fun e w' => e = .returned (.int .i64 (Pu.made a b how)) ∧ w = w' := by
  by_cases hf : Pu.faceB a = true
  · by_cases hg : Pu.faceB b = true
    · have f0 : 0 ≤ a := by simp [Pu.faceB] at hf; omega
      have g0 : 0 ≤ b := by simp [Pu.faceB] at hg; omega
      have HF : Hid (Pu.made a b how = (Pu.acc (Pu.hows how) a b 6 : Int)) := by simp [Hid, Pu.made, hf, hg]
      obtain ⟨p, HP⟩ : ∃ p, Hid (p = Pu.hows how) := ⟨_, rfl⟩
      rw [← HP.out] at HF
      obtain rfl | rfl | rfl : how = 0 ∨ how = 1 ∨ how = 2 := by omega
      all_goals
        go_enter Try.func38, Try.ntmps38
        go_wp2_with (go_at_call 18; refine (sIsFace_c _ _).mono ?_; rintro e w' ⟨rfl, rfl⟩)
        go_loop [7, 8] (fun f i => ∃ k : Nat, k ≤ 6 ∧ i = .int .i64 k ∧ f = .int .i64 (Pu.acc p a b k : Nat)) (fun _ i => 6 - (intOf i).toNat)
        case atStart => exact ⟨0, by omega, rfl, rfl⟩
        case round =>
          obtain ⟨k, hk, rfl, rfl⟩ := hrel
          by_cases hk6 : k < 6
          · obtain ⟨hp0, hp⟩ := Pu.two_bd hk6
            have hlt := Pu.acc_bd p a b (k := k) (by omega)
            go_wp2_with (go_at_call 26; refine (l2Has_c _ _ _ (by omega) (by omega) (by omega)).mono ?_; rintro e w' ⟨rfl, rfl⟩)
            all_goals
              go_roundw
              case rel => exact ⟨k + 1, by omega, by go_num, by rw [Pu.acc_step, HP.out]; simp [Pu.hows, *]⟩
              case measure => simp [intOf]; omega
          · obtain rfl : k = 6 := by omega
            go_wp2
            go_ret
            exact ⟨ret_int HF.out.symm, rfl⟩
    · go_enter Try.func38, Try.ntmps38
      go_wp2_with (go_at_call 18; refine (sIsFace_c _ _).mono ?_; rintro e w' ⟨rfl, rfl⟩)
      go_ret
      exact ⟨ret_int (by simp_all [Pu.made]), rfl⟩
  · go_enter Try.func38, Try.ntmps38
    go_wp2_with (go_at_call 18; refine (sIsFace_c _ _).mono ?_; rintro e w' ⟨rfl, rfl⟩)
    go_ret
    exact ⟨ret_int (by simp_all [Pu.made]), rfl⟩
theorem sBothFaces_c (a b : Int) (w : World) :
    Calls Try.prog 32 #[.int .i64 a, .int .i64 b] w fun e w' => e = .returned (.int .i64 (Pu.made a b 0)) ∧ w = w' := by
  go_enter Try.func32, Try.ntmps32
  go_wp2_with (go_at_call 38; refine (l2Made_c _ _ _ _ (by omega) (by omega)).mono ?_; rintro e w' ⟨rfl, rfl⟩)
  go_ret
  exact ⟨rfl, rfl⟩
end Go.Proofs.Ytcnhglellnglgaa
