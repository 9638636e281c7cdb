/- Plain laws of faces. -/
import Derived.Test.YtpenhmglegmclaaPure
namespace Go.Proofs.Ytpenhmglegmclaa.Pu
theorem lack_nat : ∀ a : Nat, a < 64 → ∀ b : Nat, b < 64 → offersB a b = (made b a 2 == 0) := by decide +kernel
theorem bits0 : ∀ a : Nat, a < 64 → ∀ b : Nat, b < 64 → ∀ j : Nat, j < 6 → hasB (made a b 0) j = (hasB a j && hasB b j) := by decide +kernel
theorem bits1 : ∀ a : Nat, a < 64 → ∀ b : Nat, b < 64 → ∀ j : Nat, j < 6 → hasB (made a b 1) j = (hasB a j || hasB b j) := by decide +kernel
theorem count_nat : ∀ a : Nat, a < 64 → ∀ b : Nat, b < 64 → countF (made a b 1) + countF (made a b 0) = countF a + countF b := by decide +kernel
theorem back_nat : ∀ a : Nat, a < 64 → ∀ b : Nat, b < 64 → made (made a b 0) (made a b 2) 1 = a ∧ made b (made a b 2) 0 = 0 := by decide +kernel
theorem made_face (a b how : Int) : faceB (made a b how) = true := by
  have := acc_bd (hows how) a b (k := 6) (by omega)
  unfold made
  split
  · simp [faceB]; omega
  · decide
theorem both_offers {a b f : Int} (ha : faceB a = true) (hb : faceB b = true) : offersB (made a b 0) f = (offersB a f && offersB b f) := by
  obtain ⟨n, rfl, hn⟩ := nat_of_faceB ha
  obtain ⟨m, rfl, hm⟩ := nat_of_faceB hb
  rw [Bool.eq_iff_iff, Bool.and_eq_true, offersB_iff, offersB_iff, offersB_iff]
  constructor
  · rintro ⟨_, hf, h⟩
    exact ⟨⟨ha, hf, fun j hj hx => by have := h j hj hx; rw [bits0 n hn m hm j hj, Bool.and_eq_true] at this; exact this.1⟩, ⟨hb, hf, fun j hj hx => by have := h j hj hx; rw [bits0 n hn m hm j hj, Bool.and_eq_true] at this; exact this.2⟩⟩
  · rintro ⟨⟨_, hf, h1⟩, ⟨_, _, h2⟩⟩
    exact ⟨made_face _ _ _, hf, fun j hj hx => by rw [bits0 n hn m hm j hj, h1 j hj hx, h2 j hj hx]; rfl⟩
theorem offers_either {a b f : Int} (ha : faceB a = true) (hb : faceB b = true) : offersB f (made a b 1) = (offersB f a && offersB f b) := by
  obtain ⟨n, rfl, hn⟩ := nat_of_faceB ha
  obtain ⟨m, rfl, hm⟩ := nat_of_faceB hb
  rw [Bool.eq_iff_iff, Bool.and_eq_true, offersB_iff, offersB_iff, offersB_iff]
  constructor
  · rintro ⟨hf, _, h⟩
    exact ⟨⟨hf, ha, fun j hj hx => h j hj (by rw [bits1 n hn m hm j hj, hx]; rfl)⟩, ⟨hf, hb, fun j hj hx => h j hj (by rw [bits1 n hn m hm j hj, hx]; simp)⟩⟩
  · rintro ⟨⟨hf, _, h1⟩, ⟨_, _, h2⟩⟩
    exact ⟨hf, made_face _ _ _, fun j hj hx => by
      rw [bits1 n hn m hm j hj, Bool.or_eq_true] at hx
      exact hx.elim (h1 j hj) (h2 j hj)⟩
theorem lack_offers {a b : Int} (ha : faceB a = true) (hb : faceB b = true) : offersB a b = (made b a 2 == 0) := by
  obtain ⟨n, rfl, hn⟩ := nat_of_faceB ha
  obtain ⟨m, rfl, hm⟩ := nat_of_faceB hb
  exact lack_nat n hn m hm
theorem count_sum {a b : Int} (ha : faceB a = true) (hb : faceB b = true) : countF (made a b 1) + countF (made a b 0) = countF a + countF b := by
  obtain ⟨n, rfl, hn⟩ := nat_of_faceB ha
  obtain ⟨m, rfl, hm⟩ := nat_of_faceB hb
  exact count_nat n hn m hm
theorem back {a b : Int} (ha : faceB a = true) (hb : faceB b = true) : made (made a b 0) (made a b 2) 1 = a ∧ made b (made a b 2) 0 = 0 := by
  obtain ⟨n, rfl, hn⟩ := nat_of_faceB ha
  obtain ⟨m, rfl, hm⟩ := nat_of_faceB hb
  exact back_nat n hn m hm
theorem count_bd (f : Int) : 0 ≤ countF f ∧ countF f ≤ 6 := by
  have := cnt_le f 6
  unfold countF
  split <;> omega
def dbl : Nat → Nat
  | 0 => 1
  | k + 1 => 2 * dbl k
theorem dbl_le : ∀ k, k ≤ 6 → dbl k ≤ 64 := by decide
theorem under_count : ∀ a : Nat, a < 64 → (under a 64).length = dbl (cnt a 6) := by decide +kernel
/-- what lies in 'under' -/
theorem under_mem (f : Int) : ∀ k x, x ∈ under f k → 0 ≤ x ∧ x < k ∧ offersB f x = true
  | 0, x, h => by simp [under] at h
  | k + 1, x, h => by
    unfold under at h
    split at h
    · rcases List.mem_append.1 h with h | h
      · have := under_mem f k x h
        exact ⟨this.1, by omega, this.2.2⟩
      · simp at h
        subst h
        exact ⟨by omega, by omega, by assumption⟩
    · have := under_mem f k x h
      exact ⟨this.1, by omega, this.2.2⟩
theorem under_asc (f : Int) : ∀ k i x y, (under f k)[i]? = some x → (under f k)[i + 1]? = some y → x < y
  | 0, i, x, y, h, _ => by simp [under] at h
  | k + 1, i, x, y, h1, h2 => by
    unfold under at h1 h2
    split at h1
    · rename_i hk
      rw [if_pos hk] at h2
      by_cases hi : i + 1 < (under f k).length
      · rw [List.getElem?_append_left (by omega)] at h1
        rw [List.getElem?_append_left hi] at h2
        exact under_asc f k i x y h1 h2
      · rw [List.getElem?_append_right (by omega)] at h2
        have h3 := (List.getElem?_eq_some_iff.1 h2).1
        simp at h3
        have h4 : i + 1 - (under f k).length = 0 := by omega
        rw [h4] at h2
        simp at h2
        subst h2
        rw [List.getElem?_append_left (by omega)] at h1
        exact (under_mem f k x (List.mem_of_getElem? h1)).2.1
    · rename_i hk
      rw [if_neg hk] at h2
      exact under_asc f k i x y h1 h2
theorem under_none {f : Int} (h : faceB f = false) : ∀ k, under f k = []
  | 0 => rfl
  | k + 1 => by rw [under, if_neg (by rw [offersB_no (by simp [h])]; simp), under_none h k]
end Go.Proofs.Ytpenhmglegmclaa.Pu
