/- Contracts: faces counted, faces under a face. -/
import Derived.Test.YtpenhmglegmclaaMem
import Derived.Test.YtpenhmglegmclaaFace
namespace Go.Proofs.Ytpenhmglegmclaa
open Go.ChangeShapes Go.WideShapes Go.ChangeAt Go.RowKit
theorem sCountFace_c (f : Int) (w : World) :
    Calls Try.prog 19 #[.int .i64 f] w fun e w' => e = .returned (.int .i64 (Pu.countF f)) ∧ w = w' := by
  by_cases hf : Pu.faceB f = true
  · have f0 : 0 ≤ f := by simp [Pu.faceB] at hf; omega
    have HF : Hid (Pu.countF f = (Pu.cnt f 6 : Int)) := by simp [Hid, Pu.countF, hf]
    go_enter Try.func19, Try.ntmps19
    go_wp2
    go_loop [3, 4] (fun n i => ∃ k : Nat, k ≤ 6 ∧ i = .int .i64 k ∧ n = .int .i64 (Pu.cnt f k : Nat)) (fun _ i => 6 - (intOf i).toNat)
    case atStart => exact ⟨0, by omega, rfl, rfl⟩
    case round =>
      obtain ⟨k, hk, rfl, rfl⟩ := hrel
      have hle := Pu.cnt_le f k
      go_wp2_with (first | (go_at_call 61; refine (l2Has_c _ _ _ (by omega) (by omega) (by omega)).mono ?_; rintro e w' ⟨rfl, rfl⟩) | (go_at_call 32; refine (sIsFace_c _ _).mono ?_; rintro e w' ⟨rfl, rfl⟩))
      all_goals first
        | (go_round
           case rel => exact ⟨k + 1, by omega, by go_num, by simp only [Pu.cnt, *]; simp⟩
           case measure => simp [intOf]; omega)
        | (obtain rfl : k = 6 := by omega
           go_ret
           exact ⟨ret_int HF.out.symm, rfl⟩)
  · go_enter Try.func19, Try.ntmps19
    go_wp2
    refine wp_loop_rounds 1 ?_
    rw [rounds_succ]
    go_wp2_with (go_at_call 32; refine (sIsFace_c _ _).mono ?_; rintro e w' ⟨rfl, rfl⟩)
    go_ret
    exact ⟨ret_int (by simp [Pu.countF, hf]), rfl⟩
theorem iCountFace_c (f : Int) (w : World) :
    Calls Try.prog 20 #[.int .i64 f] w fun e w' => e = .returned (.int .i64 (Pu.countF f)) ∧ w = w' := by
  by_cases hf : Pu.faceB f = true
  · have HF : Hid (Pu.countF f = (Pu.cnt f 6 : Int)) := by simp [Hid, Pu.countF, hf]
    obtain ⟨n, rfl, hn⟩ := faceB_nat hf
    go_enter Try.func20, Try.ntmps20
    go_wp2_with (first | (go_at_call 31; refine (iIsFace_c _ _).mono ?_; rintro e w' ⟨rfl, rfl⟩) | go_in)
    go_ret
    refine ⟨ret_int ?_, rfl⟩
    rw [HF.out]
    clear hf HF
    go_tidy
    revert n
    decide +kernel
  · go_enter Try.func20, Try.ntmps20
    go_wp2_with (go_at_call 31; refine (iIsFace_c _ _).mono ?_; rintro e w' ⟨rfl, rfl⟩)
    go_ret
    exact ⟨ret_int (by simp [Pu.countF, hf]), rfl⟩
theorem iFacesUnder_c (f : Int) (w : World) :
    Calls Try.prog 22 #[.int .i64 f] w fun e w' => ∃ v, e = .returned v ∧ OwnL w' w.heap.size 3 1 intEn v (Pu.under f 64) ∧ Below w.heap.size w w' := by
  obtain ⟨i0, hi, hz0, hz1, hz2⟩ := info_parts info_int
  go_enter Try.func22, Try.ntmps22
  go_wp2
  go_loopw [3, 5] (fun v i wr => ∃ k : Nat, k ≤ 64 ∧ i = .int .i64 k ∧ OwnL wr w.heap.size 3 1 intEn v (Pu.under f k) ∧ Below w.heap.size w wr) (fun _ i _ => 64 - (intOf i).toNat)
  case atStart => exact ⟨0, by omega, rfl, OwnL.nil _ _ _ _ _, Below.refl _ _⟩
  case round =>
    obtain ⟨k, hk, rfl, hown, hb⟩ := hrel
    by_cases hk6 : k < 64
    · have hul := Pu.under_len f k
      go_wp2_with (first
        | (go_at_call 33; refine (iOffers_c _ _ _).mono ?_; rintro e w' ⟨rfl, rfl⟩)
        | (at_builtin; go_must (refine push_law rfl _ _ 28 (by exact rfl) w.heap.size 3 i0 (.int .i64 0) 1 8 Try.underlying28 hi hz0 hz1 hz2 rfl (by decide) intEn _ _ (k : Int) (by exact rfl) hown (by exact rfl) rfl (one_int _) hb (Nat.le_refl _) hb.size (by omega) (by decide) ?_); intro v1 w1 hown1 hg1 hb1))
      · have hx : Pu.offersB f k = true := by assumption
        go_wp2
        go_roundw
        case rel => exact ⟨k + 1, by omega, by go_num, by rw [Pu.under, if_pos hx]; exact hown1, hb1⟩
        case measure => simp [intOf]; omega
      · have hx : Pu.offersB f k = false := by assumption
        go_roundw
        case rel => exact ⟨k + 1, by omega, by go_num, by rw [Pu.under, if_neg (by simp [hx])]; exact hown, hb⟩
        case measure => simp [intOf]; omega
    · obtain rfl : k = 64 := by omega
      go_wp2
      go_ret
      exact ⟨_, rfl, hown, hb⟩
theorem sFacesUnder_c (f : Int) (w : World) :
    Calls Try.prog 21 #[.int .i64 f] w fun e w' => ∃ v, e = .returned v ∧ OwnL w' w.heap.size 3 1 intEn v (Pu.under f 64) ∧ Below w.heap.size w w' := by
  obtain ⟨i0, hi, hz0, hz1, hz2⟩ := info_parts info_int
  go_enter Try.func21, Try.ntmps21
  go_wp2
  go_loopw [3, 4] (fun v i wr => ∃ k : Nat, k ≤ 64 ∧ i = .int .i64 k ∧ OwnL wr w.heap.size 3 1 intEn v (Pu.under f k) ∧ Below w.heap.size w wr) (fun _ i _ => 64 - (intOf i).toNat)
  case atStart => exact ⟨0, by omega, rfl, World.ownsRow_made w #[] 0 (Nat.le_refl _) (Nat.zero_le _) rfl, below_alloc (Below.refl _ _) _⟩
  case round =>
    obtain ⟨k, hk, rfl, hown, hb⟩ := hrel
    by_cases hk6 : k < 64
    · have hul := Pu.under_len f k
      go_wp2_with (first
        | (go_at_call 63; refine (sOffers_c _ _ _).mono ?_; rintro e w' ⟨rfl, rfl⟩)
        | (at_builtin; go_must (refine push_law rfl _ _ 28 (by exact rfl) w.heap.size 3 i0 (.int .i64 0) 1 8 Try.underlying28 hi hz0 hz1 hz2 rfl (by decide) intEn _ _ (k : Int) (by exact rfl) hown (by exact rfl) rfl (one_int _) hb (Nat.le_refl _) hb.size (by omega) (by decide) ?_); intro v1 w1 hown1 hg1 hb1))
      · have hx : Pu.offersB f k = true := by assumption
        go_wp2
        go_roundw
        case rel => exact ⟨k + 1, by omega, by go_num, by rw [Pu.under, if_pos hx]; exact hown1, hb1⟩
        case measure => simp [intOf]; omega
      · have hx : Pu.offersB f k = false := by assumption
        go_roundw
        case rel => exact ⟨k + 1, by omega, by go_num, by rw [Pu.under, if_neg (by simp [hx])]; exact hown, hb⟩
        case measure => simp [intOf]; omega
    · obtain rfl : k = 64 := by omega
      go_wp2
      go_ret
      exact ⟨_, rfl, hown, hb⟩
end Go.Proofs.Ytpenhmglegmclaa
