/- Contracts: names. -/
import Derived.Test.YtabbgabdbkbjcaaDoorLib
namespace Go.Proofs.YtabbgabdbkbjcaaDoor
open Go.ChangeShapes Go.WideShapes Go.ChangeAt Go.RowKit
set_option maxRecDepth 100000
theorem l1Letter_c (b : Int) (first : Bool) (w : World) :
    Calls Tryd.prog 76 #[.int .u8 b, .bool first] w fun e w' => e = .returned (.bool (Pu.letterI b first)) ∧ w = w' := by
  cases first
  all_goals
    go_enter Tryd.func76, Tryd.ntmps76
    go_wp2
    all_goals go_ret
    all_goals (refine ⟨ret_bool ?_, rfl⟩; rw [Bool.eq_iff_iff]; simp [Pu.letterI]; try omega)

theorem sIsName_c (s : ByteArray) (w : World) (hs : s.size ≤ maxLen) :
    Calls Tryd.prog 61 #[.string s] w fun e w' => e = .returned (.bool (Pu.nameL s.toList)) ∧ w = w' := by
  unfold maxLen at hs
  have HL := hide (lenB s)
  go_enter Tryd.func61, Tryd.ntmps61
  go_wp2_with fail
  go_loop [3] (fun i => ∃ k : Nat, k ≤ s.size ∧ i = .int .i64 k ∧ Hid (Pu.lettersF true s.toList = Pu.lettersF ((k : Int) == 0) (s.toList.drop k))) (fun i => s.size - (intOf i).toNat)
  case atStart => exact ⟨0, by omega, rfl, rfl⟩
  case round =>
    obtain ⟨k, hk, rfl, HA⟩ := hrel
    by_cases hlt : k < s.size
    · have HD := hide (dropB hlt)
      have HZ : Hid (((k : Int) + 1 == 0) = false) := by rw [Hid, beq_eq_false_iff_ne]; omega
      go_wp2_with (go_at_call 76; refine (l1Letter_c _ _ _).mono ?_; rintro e w' ⟨rfl, rfl⟩)
      · have hx : (!Pu.letterI (↑s[k].toNat) ((k : Int) == 0)) = true := by assumption
        go_ret
        refine ⟨ret_bool ?_, rfl⟩
        rw [Pu.nameL, HA.out, HD.out, Pu.lettersF]; simp at hx; simp [hx]
      · have hx : (!Pu.letterI (↑s[k].toNat) ((k : Int) == 0)) = false := by assumption
        go_round
        case rel => exact ⟨k + 1, by omega, by go_num, by rw [Hid, HA.out, HD.out, Pu.lettersF]; simp at hx; simp only [hx, Bool.true_and]; rw [Int.natCast_add, Int.natCast_one, HZ.out]⟩
        case measure => simp [intOf]; omega
    · have HE := hide (dropB_end (s := s) (k := k) (by omega))
      go_wp2
      all_goals
        go_ret
        refine ⟨ret_bool ?_, rfl⟩
        rw [Pu.nameL, HL.out, HA.out, HE.out, Pu.lettersF, Bool.eq_iff_iff]; simp; try omega
theorem iIsName_c (s : ByteArray) (w : World) (hs : s.size ≤ maxLen) :
    Calls Tryd.prog 60 #[.string s] w fun e w' => e = .returned (.bool (Pu.nameL s.toList)) ∧ w = w' := by
  unfold maxLen at hs
  have HL := hide (lenB s)
  by_cases h0 : 0 < s.size
  · have HD := hide (dropB h0)
    have HA : Hid (Pu.nameL s.toList = (decide (s.size ≤ 8) && Pu.letterI s[0].toNat true && Pu.lettersF false s.toList)) := by
      have h1 := HD.out
      rw [List.drop_zero] at h1
      have h2 := HL.out
      rw [h1, List.length_cons] at h2
      rw [Hid, h1, Pu.nameL_alt, h2]
    go_enter Tryd.func60, Tryd.ntmps60
    go_wp2_with fail
    all_goals first
      | (go_ret; refine ⟨ret_bool ?_, rfl⟩; rw [HA.out, Bool.eq_iff_iff]; simp [Pu.letterI]; omega)
      | go_loop [3] (fun i => ∃ k : Nat, k ≤ s.size ∧ i = .int .i64 k ∧ Hid (Pu.lettersF false s.toList = Pu.lettersF false (s.toList.drop k))) (fun i => s.size - (intOf i).toNat)
    case atStart => exact ⟨0, by omega, rfl, rfl⟩
    case round =>
      obtain ⟨k, hk, rfl, HB⟩ := hrel
      have HN : Hid (Pu.nameL s.toList = Pu.lettersF false (s.toList.drop k)) := by
        rw [Hid, HA.out, HB.out]
        have : Pu.letterI s[0].toNat true = true := by simp [Pu.letterI]; omega
        rw [this, decide_eq_true (by omega)]; simp
      by_cases hlt : k < s.size
      · have HC := hide (dropB hlt)
        go_wp2
        all_goals first
          | (go_ret; refine ⟨ret_bool ?_, rfl⟩; rw [HN.out, HC.out, Pu.lettersF, Bool.eq_iff_iff]; simp [Pu.letterI]; intros; omega)
          | (go_round
             case rel => exact ⟨k + 1, by omega, by go_num, by rw [Hid, HB.out, HC.out, Pu.lettersF, Bool.eq_iff_iff]; simp [Pu.letterI]; intros; omega⟩
             case measure => simp [intOf]; omega)
      · have HE := hide (dropB_end (s := s) (k := k) (by omega))
        go_wp2
        go_ret
        refine ⟨ret_bool ?_, rfl⟩
        rw [HN.out, HE.out, Pu.lettersF]
  · go_enter Tryd.func60, Tryd.ntmps60
    go_wp2_with fail
    go_ret
    refine ⟨ret_bool ?_, rfl⟩
    rw [Pu.nameL, HL.out]; simp [h0]
end Go.Proofs.YtabbgabdbkbjcaaDoor
