/- Contract: the reference reads a number. -/
import Derived.Test.YtabbgabdbkbjcaaDoorNumText
namespace Go.Proofs.YtabbgabdbkbjcaaDoor
open Go.ChangeShapes Go.WideShapes Go.ChangeAt Go.RowKit
set_option maxRecDepth 100000
theorem Pu.hor_step {s : ByteArray} {k : Nat} (h : k < s.size) : Pu.hor 0 (s.toList.take (k + 1)) = 10 * Pu.hor 0 (s.toList.take k) + s[k].toNat - 48 := by
  have hk : k < s.toList.length := by rw [lenB]; exact h
  have e : s.toList[k] = s[k] := by
    have h1 := dropB h
    rw [List.drop_eq_getElem_cons hk] at h1
    exact (List.cons.inj h1).1
  rw [List.take_succ_eq_append_getElem hk, Pu.hor_app, e]; rfl
set_option maxHeartbeats 1000000 in
theorem sParseNumber_c (s : ByteArray) (w : World) (hs : s.size ≤ maxLen) :
    Calls Tryd.prog 36 #[.string s] w fun e w' => e = .returned (.tuple #[.int .i64 (Pu.pnV s.toList), .bool (Pu.pnB s.toList)]) ∧ Below w.heap.size w w' := by
  unfold maxLen at hs
  have HL := hide (lenB s)
  go_enter Tryd.func36, Tryd.ntmps36
  go_wp2
  go_loopw [4, 5] (fun v i wr => ∃ k : Nat, k ≤ 4 ∧ k ≤ s.size ∧ i = .int .i64 k ∧ v = .int .i64 (Pu.hor 0 (s.toList.take k)) ∧ w = wr) (fun _ i _ => 4 - (intOf i).toNat)
  case atStart => exact ⟨0, by omega, by omega, rfl, rfl, rfl⟩
  case round =>
    obtain ⟨k, hk, hks, rfl, rfl, rfl⟩ := hrel
    have hb := Pu.hor_bd (s.toList.take k) (by rw [List.length_take]; omega)
    by_cases hlt : k < s.size
    · by_cases hk4 : k < 4
      · have HS := hide (Pu.hor_step hlt)
        have hbt : s[k].toNat < 256 := s[k].toNat_lt
        generalize Pu.hor 0 (s.toList.take k) = x at hb HS ⊢
        go_wp2
        go_roundw
        case rel => exact ⟨k + 1, by omega, by omega, by go_num, by rw [HS.out], trivial⟩
        case measure => simp [intOf]; omega
      · obtain rfl : k = 4 := by omega
        have HM := hide (Pu.pn_miss (s := s.toList) fun n _ e => by have := (Pu.numK_len n).2; rw [e, lenB] at this; omega)
        have HI : Hid (∀ n : Int, 0 ≤ n → n ≤ 999 → ((Pu.numB n).toList == s.toList) = false) := fun n h0 h1 => by
          rw [Bool.eq_false_iff]
          intro hc
          have h2 := Pu.itoa_len_small h0 h1
          have h3 : (Pu.numB n).toList = s.toList := by simpa using hc
          rw [Pu.numB, Lib.toList_data] at h3
          have h4 := congrArg List.length h3
          rw [lenB] at h4
          have h5 : (⟨(Lib.itoa n).toArray⟩ : ByteArray).data.toList.length = (Lib.itoa n).length := rfl
          omega
        generalize Pu.hor 0 (s.toList.take 4) = x at hb ⊢
        have hs0 : ¬ s.size = 0 := by omega
        by_cases hx0 : x < 0
        · go_wp2
          go_ret2
          exact ⟨by rw [HM.out.1, HM.out.2]; rfl, Below.refl _ _⟩
        by_cases hx1 : 999 < x
        · go_wp2
          go_ret2
          exact ⟨by rw [HM.out.1, HM.out.2]; rfl, Below.refl _ _⟩
        have hq := HI.out x (by omega) (by omega)
        go_wp2_with (go_at_call 53; refine (sFormatNumber_c _ _ (by omega) (by omega)).mono ?_; rintro e W2 ⟨rfl, b2⟩)
        go_ret2
        exact ⟨by rw [HM.out.1, HM.out.2]; rfl, b2⟩
    · have hkk : k = s.size := by omega
      have hks' : Hid (s.toList.take k = s.toList) := by rw [Hid, List.take_of_length_le]; rw [lenB]; omega
      rw [hks'.out] at hb ⊢
      by_cases hs0 : s.size = 0
      · have HM := hide (Pu.pn_miss (s := s.toList) fun n _ e => by have := (Pu.numK_len n).1; rw [e, lenB] at this; omega)
        have hnl : ¬ (k : Int) < s.size := by omega
        clear hks
        go_wp2
        go_ret2
        exact ⟨by rw [HM.out.1, HM.out.2]; rfl, Below.refl _ _⟩
      have hmiss : (∀ h0 : 0 ≤ Pu.hor 0 s.toList, ∀ h1 : Pu.hor 0 s.toList ≤ 999, Lib.itoa (Pu.hor 0 s.toList) ≠ s.toList) → Pu.pnV s.toList = 0 ∧ Pu.pnB s.toList = false := fun h => Pu.pn_miss (s := s.toList) fun m hm e => by
        have h1 := Pu.hor_K m hm
        rw [e] at h1
        exact h (by omega) (by omega) (by rw [h1, Pu.itoa_K hm]; exact e)
      have hhit : ∀ h0 : 0 ≤ Pu.hor 0 s.toList, ∀ h1 : Pu.hor 0 s.toList ≤ 999, Lib.itoa (Pu.hor 0 s.toList) = s.toList → Pu.pnV s.toList = Pu.hor 0 s.toList ∧ Pu.pnB s.toList = true := fun h0 h1 e => Pu.pn_hit h0 h1 e
      have hnl : ¬ (k : Int) < s.size := by omega
      generalize Pu.hor 0 s.toList = x at hb hmiss hhit ⊢
      by_cases hx0 : x < 0
      · have HM := hide (hmiss fun _ _ => by omega)
        clear hmiss hhit
        go_wp2
        go_ret2
        exact ⟨by rw [HM.out.1, HM.out.2]; rfl, Below.refl _ _⟩
      by_cases hx1 : 999 < x
      · have HM := hide (hmiss fun _ _ => by omega)
        clear hmiss hhit
        go_wp2
        go_ret2
        exact ⟨by rw [HM.out.1, HM.out.2]; rfl, Below.refl _ _⟩
      rcases hq : ((Pu.numB x).toList == s.toList) with _ | _
      · have HM := hide (hmiss fun _ _ e => by rw [Pu.numB, Lib.toList_data] at hq; simp [e] at hq)
        clear hmiss hhit
        go_wp2_with (go_at_call 53; refine (sFormatNumber_c _ _ (by omega) (by omega)).mono ?_; rintro e W2 ⟨rfl, b2⟩)
        go_ret2
        exact ⟨by rw [HM.out.1, HM.out.2]; rfl, b2⟩
      · have HM := hide (hhit (by omega) (by omega) (by rw [Pu.numB, Lib.toList_data] at hq; simpa using hq))
        clear hmiss hhit
        go_wp2_with (go_at_call 53; refine (sFormatNumber_c _ _ (by omega) (by omega)).mono ?_; rintro e W2 ⟨rfl, b2⟩)
        go_ret2
        exact ⟨by rw [HM.out.1, HM.out.2]; rfl, b2⟩
end Go.Proofs.YtabbgabdbkbjcaaDoor
